/-
  No cell of these rows narrows 'for every input' (looked for: loops, veiled, ifaces, maps, wideKeys, modest, calm, conditions, laid).
  DERIVED. THE GIVEN ROWS OF THIS SEAT. 11 by the template 'for every input the law returns true; each argument reads behind the call as it read before'; 0 by the template 'total and deterministic' (their statements: YtmfgnbchehnpjaaTotals.lean).
  GIVEN WITH THE SEED: the statements are not yours to turn. If you find one false, say at which input.
  Laid BY PROGRAM, IN A SANDBOX (cutbox-rows.mjs): the forced cells as the released guide's own fill.sh prints them over the translation 2c9b456420e4ca30… (all of the seat's roots in one cut). By AI agents, Wed Nov 11 2026. No macro, syntax, notation, axiom, sorry.
-/
import Derived.Test.YtmfgnbchehnpjaaChecked
import GoSem.Claim
import GoSem.ClaimJoined
import GoSem.ClaimMapViews
import Derived.JoinedTies
import Derived.KernelRfl
namespace Go.Proofs.Ytmfgnbchehnpjaa
/- THE CELL 'sum', in the pinned program and in every row, IS THE sha256 OF THE DUMP (.gsa) THAT YtmfgnbchehnpjaaProg.lean LOADS. Nothing in Lean hashes anything: it is a label: what it is worth is what the hold of that sum in a sandbox is worth. -/
noncomputable def Try.pinned : Pinned := { name := "ytmfgnbchehnpjaa", sum := "2c9b456420e4ca30e4c305112f5c53af02ce1c3e60b113aaf25ff9154e4f7727", checked := Try.checked }
namespace Rows
def none {H : Type} : Left H := { results := [], args := [] }

/-- 'trammellaw05.GsoData': WHATEVER THE INPUT: true; the input reads as it did. -/
def gsoDataSpec : ChangeSpec := { name := "gsoData", fn := fun _ => fun
  | [d] => { results := [.lit (.bool true)], args := [d] }
  | _ => none }
def gsoDataRow : OpenClaim := { program := "ytmfgnbchehnpjaa", sum := "2c9b456420e4ca30e4c305112f5c53af02ce1c3e60b113aaf25ff9154e4f7727", func := "trammel/trammellaw05.GsoData", spec := "gsoData", apart := false }
def GsoDataSaid : Prop := gsoDataRow.holds Try.pinned (OpenSpec.ofChange gsoDataSpec)

/-- ITS FALSE NEIGHBOUR: 'it returns false'. Refute it at one input. -/
def gsoDataWrong : ChangeSpec := { name := "gsoData", fn := fun _ => fun
  | [d] => { results := [.lit (.bool false)], args := [d] }
  | _ => none }
def GsoDataWrongFalsely : Prop := gsoDataRow.holds Try.pinned (OpenSpec.ofChange gsoDataWrong)

/-- 'trammellaw05.GsoParts': WHATEVER THE INPUT: true; the input reads as it did. -/
def gsoPartsSpec : ChangeSpec := { name := "gsoParts", fn := fun _ => fun
  | [d1, d2, d3] => { results := [.lit (.bool true)], args := [d1, d2, d3] }
  | _ => none }
def gsoPartsRow : OpenClaim := { program := "ytmfgnbchehnpjaa", sum := "2c9b456420e4ca30e4c305112f5c53af02ce1c3e60b113aaf25ff9154e4f7727", func := "trammel/trammellaw05.GsoParts", spec := "gsoParts", apart := false }
def GsoPartsSaid : Prop := gsoPartsRow.holds Try.pinned (OpenSpec.ofChange gsoPartsSpec)

/-- ITS FALSE NEIGHBOUR: 'it returns false'. Refute it at one input. -/
def gsoPartsWrong : ChangeSpec := { name := "gsoParts", fn := fun _ => fun
  | [d1, d2, d3] => { results := [.lit (.bool false)], args := [d1, d2, d3] }
  | _ => none }
def GsoPartsWrongFalsely : Prop := gsoPartsRow.holds Try.pinned (OpenSpec.ofChange gsoPartsWrong)

/-- 'trammellaw05.GsoMoves': WHATEVER THE INPUT: true; the input reads as it did. -/
def gsoMovesSpec : ChangeSpec := { name := "gsoMoves", fn := fun _ => fun
  | [d1, d2, d3, d4] => { results := [.lit (.bool true)], args := [d1, d2, d3, d4] }
  | _ => none }
def gsoMovesRow : OpenClaim := { program := "ytmfgnbchehnpjaa", sum := "2c9b456420e4ca30e4c305112f5c53af02ce1c3e60b113aaf25ff9154e4f7727", func := "trammel/trammellaw05.GsoMoves", spec := "gsoMoves", unfollowed := true, recurses := true, apart := false }
def GsoMovesSaid : Prop := gsoMovesRow.holds Try.pinned (OpenSpec.ofChange gsoMovesSpec)

/-- ITS FALSE NEIGHBOUR: 'it returns false'. Refute it at one input. -/
def gsoMovesWrong : ChangeSpec := { name := "gsoMoves", fn := fun _ => fun
  | [d1, d2, d3, d4] => { results := [.lit (.bool false)], args := [d1, d2, d3, d4] }
  | _ => none }
def GsoMovesWrongFalsely : Prop := gsoMovesRow.holds Try.pinned (OpenSpec.ofChange gsoMovesWrong)

/-- 'trammellaw05.GsoFollows': WHATEVER THE INPUT: true; the input reads as it did. -/
def gsoFollowsSpec : ChangeSpec := { name := "gsoFollows", fn := fun _ => fun
  | [d1, d2, d3, d4] => { results := [.lit (.bool true)], args := [d1, d2, d3, d4] }
  | _ => none }
def gsoFollowsRow : OpenClaim := { program := "ytmfgnbchehnpjaa", sum := "2c9b456420e4ca30e4c305112f5c53af02ce1c3e60b113aaf25ff9154e4f7727", func := "trammel/trammellaw05.GsoFollows", spec := "gsoFollows", unfollowed := true, recurses := true, apart := false }
def GsoFollowsSaid : Prop := gsoFollowsRow.holds Try.pinned (OpenSpec.ofChange gsoFollowsSpec)

/-- ITS FALSE NEIGHBOUR: 'it returns false'. Refute it at one input. -/
def gsoFollowsWrong : ChangeSpec := { name := "gsoFollows", fn := fun _ => fun
  | [d1, d2, d3, d4] => { results := [.lit (.bool false)], args := [d1, d2, d3, d4] }
  | _ => none }
def GsoFollowsWrongFalsely : Prop := gsoFollowsRow.holds Try.pinned (OpenSpec.ofChange gsoFollowsWrong)

/-- 'trammellaw05.GsoNorms': WHATEVER THE INPUT: true; the input reads as it did. -/
def gsoNormsSpec : ChangeSpec := { name := "gsoNorms", fn := fun _ => fun
  | [d1, d2] => { results := [.lit (.bool true)], args := [d1, d2] }
  | _ => none }
def gsoNormsRow : OpenClaim := { program := "ytmfgnbchehnpjaa", sum := "2c9b456420e4ca30e4c305112f5c53af02ce1c3e60b113aaf25ff9154e4f7727", func := "trammel/trammellaw05.GsoNorms", spec := "gsoNorms", unfollowed := true, recurses := true, apart := false }
def GsoNormsSaid : Prop := gsoNormsRow.holds Try.pinned (OpenSpec.ofChange gsoNormsSpec)

/-- ITS FALSE NEIGHBOUR: 'it returns false'. Refute it at one input. -/
def gsoNormsWrong : ChangeSpec := { name := "gsoNorms", fn := fun _ => fun
  | [d1, d2] => { results := [.lit (.bool false)], args := [d1, d2] }
  | _ => none }
def GsoNormsWrongFalsely : Prop := gsoNormsRow.holds Try.pinned (OpenSpec.ofChange gsoNormsWrong)

/-- 'trammellaw05.GsoLengths': WHATEVER THE INPUT: true; the input reads as it did. -/
def gsoLengthsSpec : ChangeSpec := { name := "gsoLengths", fn := fun _ => fun
  | [d1, d2] => { results := [.lit (.bool true)], args := [d1, d2] }
  | _ => none }
def gsoLengthsRow : OpenClaim := { program := "ytmfgnbchehnpjaa", sum := "2c9b456420e4ca30e4c305112f5c53af02ce1c3e60b113aaf25ff9154e4f7727", func := "trammel/trammellaw05.GsoLengths", spec := "gsoLengths", unfollowed := true, recurses := true, apart := false }
def GsoLengthsSaid : Prop := gsoLengthsRow.holds Try.pinned (OpenSpec.ofChange gsoLengthsSpec)

/-- ITS FALSE NEIGHBOUR: 'it returns false'. Refute it at one input. -/
def gsoLengthsWrong : ChangeSpec := { name := "gsoLengths", fn := fun _ => fun
  | [d1, d2] => { results := [.lit (.bool false)], args := [d1, d2] }
  | _ => none }
def GsoLengthsWrongFalsely : Prop := gsoLengthsRow.holds Try.pinned (OpenSpec.ofChange gsoLengthsWrong)

/-- 'trammellaw05.GsoNear': WHATEVER THE INPUT: true; the input reads as it did. -/
def gsoNearSpec : ChangeSpec := { name := "gsoNear", fn := fun _ => fun
  | [d1, d2] => { results := [.lit (.bool true)], args := [d1, d2] }
  | _ => none }
def gsoNearRow : OpenClaim := { program := "ytmfgnbchehnpjaa", sum := "2c9b456420e4ca30e4c305112f5c53af02ce1c3e60b113aaf25ff9154e4f7727", func := "trammel/trammellaw05.GsoNear", spec := "gsoNear", unfollowed := true, recurses := true, apart := false }
def GsoNearSaid : Prop := gsoNearRow.holds Try.pinned (OpenSpec.ofChange gsoNearSpec)

/-- ITS FALSE NEIGHBOUR: 'it returns false'. Refute it at one input. -/
def gsoNearWrong : ChangeSpec := { name := "gsoNear", fn := fun _ => fun
  | [d1, d2] => { results := [.lit (.bool false)], args := [d1, d2] }
  | _ => none }
def GsoNearWrongFalsely : Prop := gsoNearRow.holds Try.pinned (OpenSpec.ofChange gsoNearWrong)

/-- 'trammellaw09.IvalSteps': WHATEVER THE INPUT: true; the input reads as it did. -/
def ivalStepsSpec : ChangeSpec := { name := "ivalSteps", fn := fun _ => fun
  | [d] => { results := [.lit (.bool true)], args := [d] }
  | _ => none }
def ivalStepsRow : OpenClaim := { program := "ytmfgnbchehnpjaa", sum := "2c9b456420e4ca30e4c305112f5c53af02ce1c3e60b113aaf25ff9154e4f7727", func := "trammel/trammellaw09.IvalSteps", spec := "ivalSteps", inPlace := ["math.Float64frombits", "math.Float64bits"], apart := false }
def IvalStepsSaid : Prop := ivalStepsRow.holds Try.pinned (OpenSpec.ofChange ivalStepsSpec)

/-- ITS FALSE NEIGHBOUR: 'it returns false'. Refute it at one input. -/
def ivalStepsWrong : ChangeSpec := { name := "ivalSteps", fn := fun _ => fun
  | [d] => { results := [.lit (.bool false)], args := [d] }
  | _ => none }
def IvalStepsWrongFalsely : Prop := ivalStepsRow.holds Try.pinned (OpenSpec.ofChange ivalStepsWrong)

/-- 'trammellaw09.IvalSums': WHATEVER THE INPUT: true; the input reads as it did. -/
def ivalSumsSpec : ChangeSpec := { name := "ivalSums", fn := fun _ => fun
  | [d1, d2] => { results := [.lit (.bool true)], args := [d1, d2] }
  | _ => none }
def ivalSumsRow : OpenClaim := { program := "ytmfgnbchehnpjaa", sum := "2c9b456420e4ca30e4c305112f5c53af02ce1c3e60b113aaf25ff9154e4f7727", func := "trammel/trammellaw09.IvalSums", spec := "ivalSums", inPlace := ["math.Float64frombits", "math.Float64bits"], apart := false }
def IvalSumsSaid : Prop := ivalSumsRow.holds Try.pinned (OpenSpec.ofChange ivalSumsSpec)

/-- ITS FALSE NEIGHBOUR: 'it returns false'. Refute it at one input. -/
def ivalSumsWrong : ChangeSpec := { name := "ivalSums", fn := fun _ => fun
  | [d1, d2] => { results := [.lit (.bool false)], args := [d1, d2] }
  | _ => none }
def IvalSumsWrongFalsely : Prop := ivalSumsRow.holds Try.pinned (OpenSpec.ofChange ivalSumsWrong)

/-- 'trammellaw09.IvalOrders': WHATEVER THE INPUT: true; the input reads as it did. -/
def ivalOrdersSpec : ChangeSpec := { name := "ivalOrders", fn := fun _ => fun
  | [d1, d2, d3] => { results := [.lit (.bool true)], args := [d1, d2, d3] }
  | _ => none }
def ivalOrdersRow : OpenClaim := { program := "ytmfgnbchehnpjaa", sum := "2c9b456420e4ca30e4c305112f5c53af02ce1c3e60b113aaf25ff9154e4f7727", func := "trammel/trammellaw09.IvalOrders", spec := "ivalOrders", inPlace := ["math.Float64bits", "math.Float64frombits"], unfollowed := true, recurses := true, apart := false }
def IvalOrdersSaid : Prop := ivalOrdersRow.holds Try.pinned (OpenSpec.ofChange ivalOrdersSpec)

/-- ITS FALSE NEIGHBOUR: 'it returns false'. Refute it at one input. -/
def ivalOrdersWrong : ChangeSpec := { name := "ivalOrders", fn := fun _ => fun
  | [d1, d2, d3] => { results := [.lit (.bool false)], args := [d1, d2, d3] }
  | _ => none }
def IvalOrdersWrongFalsely : Prop := ivalOrdersRow.holds Try.pinned (OpenSpec.ofChange ivalOrdersWrong)

/-- 'trammellaw09.IvalProducts': WHATEVER THE INPUT: true; the input reads as it did. -/
def ivalProductsSpec : ChangeSpec := { name := "ivalProducts", fn := fun _ => fun
  | [d1, d2] => { results := [.lit (.bool true)], args := [d1, d2] }
  | _ => none }
def ivalProductsRow : OpenClaim := { program := "ytmfgnbchehnpjaa", sum := "2c9b456420e4ca30e4c305112f5c53af02ce1c3e60b113aaf25ff9154e4f7727", func := "trammel/trammellaw09.IvalProducts", spec := "ivalProducts", inPlace := ["math.Float64frombits", "math.Float64bits"], apart := false }
def IvalProductsSaid : Prop := ivalProductsRow.holds Try.pinned (OpenSpec.ofChange ivalProductsSpec)

/-- ITS FALSE NEIGHBOUR: 'it returns false'. Refute it at one input. -/
def ivalProductsWrong : ChangeSpec := { name := "ivalProducts", fn := fun _ => fun
  | [d1, d2] => { results := [.lit (.bool false)], args := [d1, d2] }
  | _ => none }
def IvalProductsWrongFalsely : Prop := ivalProductsRow.holds Try.pinned (OpenSpec.ofChange ivalProductsWrong)

/- THE SECOND FORM. 'bulk': how many values and letters a reading holds, each counted each time it is reached (what is shared counts as often as it is met; a slice's spare places count too). A statement '..UptoSaid' is the law's where the arguments, and the package variables that the reading takes, are together of bulk at most 1048576: NARROWER than '..Said'. Prove '..Said' where nothing that the law and all that it calls make is longer than what came in: it says more and counts as full. Else prove '..UptoSaid'. A law counts once. -/
mutual
def uptoBulk {H : Type} : DataW H → Nat
  | .lit (.string bytes) => bytes.length + 1
  | .lit _ => 1
  | .nil => 1
  | .ptr d => uptoBulk d + 1
  | .slice elems spare => uptoBulkAll elems + uptoBulkAll spare + 1
  | .agg parts => uptoBulkAll parts + 1
  | .iface _ d => uptoBulk d + 1
  | .map entries => uptoBulkEntries entries + 1
  | .held _ => 1
def uptoBulkAll {H : Type} : List (DataW H) → Nat
  | [] => 0
  | d :: r => uptoBulk d + uptoBulkAll r
def uptoBulkEntries {H : Type} : List (Lit × DataW H) → Nat
  | [] => 0
  | x :: r => uptoBulkEntry x + uptoBulkEntries r
def uptoBulkEntry {H : Type} : Lit × DataW H → Nat
  | (.string bytes, d) => bytes.length + uptoBulk d + 1
  | (_, d) => uptoBulk d + 1
 end
def uptoSmall : (H : Type) → List (DataW H) → Bool := fun _ ds => decide (uptoBulkAll ds ≤ 1048576)
def OpenSpec.upto (s : _root_.Go.ChangeSpec) : _root_.Go.OpenSpec := { _root_.Go.OpenSpec.ofChange s with cond := some uptoSmall }

/-- 'trammellaw05.GsoData', WHERE WHAT IT READS IS OF BULK AT MOST 1048576: true; the input reads as it did. -/
def gsoDataUptoRow : OpenClaim := { program := "ytmfgnbchehnpjaa", sum := "2c9b456420e4ca30e4c305112f5c53af02ce1c3e60b113aaf25ff9154e4f7727", func := "trammel/trammellaw05.GsoData", spec := "gsoData", apart := false, narrowed := true }
def GsoDataUptoSaid : Prop := gsoDataUptoRow.holds Try.pinned (OpenSpec.upto gsoDataSpec)

/-- 'trammellaw05.GsoParts', WHERE WHAT IT READS IS OF BULK AT MOST 1048576: true; the input reads as it did. -/
def gsoPartsUptoRow : OpenClaim := { program := "ytmfgnbchehnpjaa", sum := "2c9b456420e4ca30e4c305112f5c53af02ce1c3e60b113aaf25ff9154e4f7727", func := "trammel/trammellaw05.GsoParts", spec := "gsoParts", apart := false, narrowed := true }
def GsoPartsUptoSaid : Prop := gsoPartsUptoRow.holds Try.pinned (OpenSpec.upto gsoPartsSpec)

/-- 'trammellaw05.GsoMoves', WHERE WHAT IT READS IS OF BULK AT MOST 1048576: true; the input reads as it did. -/
def gsoMovesUptoRow : OpenClaim := { program := "ytmfgnbchehnpjaa", sum := "2c9b456420e4ca30e4c305112f5c53af02ce1c3e60b113aaf25ff9154e4f7727", func := "trammel/trammellaw05.GsoMoves", spec := "gsoMoves", unfollowed := true, recurses := true, apart := false, narrowed := true }
def GsoMovesUptoSaid : Prop := gsoMovesUptoRow.holds Try.pinned (OpenSpec.upto gsoMovesSpec)

/-- 'trammellaw05.GsoFollows', WHERE WHAT IT READS IS OF BULK AT MOST 1048576: true; the input reads as it did. -/
def gsoFollowsUptoRow : OpenClaim := { program := "ytmfgnbchehnpjaa", sum := "2c9b456420e4ca30e4c305112f5c53af02ce1c3e60b113aaf25ff9154e4f7727", func := "trammel/trammellaw05.GsoFollows", spec := "gsoFollows", unfollowed := true, recurses := true, apart := false, narrowed := true }
def GsoFollowsUptoSaid : Prop := gsoFollowsUptoRow.holds Try.pinned (OpenSpec.upto gsoFollowsSpec)

/-- 'trammellaw05.GsoNorms', WHERE WHAT IT READS IS OF BULK AT MOST 1048576: true; the input reads as it did. -/
def gsoNormsUptoRow : OpenClaim := { program := "ytmfgnbchehnpjaa", sum := "2c9b456420e4ca30e4c305112f5c53af02ce1c3e60b113aaf25ff9154e4f7727", func := "trammel/trammellaw05.GsoNorms", spec := "gsoNorms", unfollowed := true, recurses := true, apart := false, narrowed := true }
def GsoNormsUptoSaid : Prop := gsoNormsUptoRow.holds Try.pinned (OpenSpec.upto gsoNormsSpec)

/-- 'trammellaw05.GsoLengths', WHERE WHAT IT READS IS OF BULK AT MOST 1048576: true; the input reads as it did. -/
def gsoLengthsUptoRow : OpenClaim := { program := "ytmfgnbchehnpjaa", sum := "2c9b456420e4ca30e4c305112f5c53af02ce1c3e60b113aaf25ff9154e4f7727", func := "trammel/trammellaw05.GsoLengths", spec := "gsoLengths", unfollowed := true, recurses := true, apart := false, narrowed := true }
def GsoLengthsUptoSaid : Prop := gsoLengthsUptoRow.holds Try.pinned (OpenSpec.upto gsoLengthsSpec)

/-- 'trammellaw05.GsoNear', WHERE WHAT IT READS IS OF BULK AT MOST 1048576: true; the input reads as it did. -/
def gsoNearUptoRow : OpenClaim := { program := "ytmfgnbchehnpjaa", sum := "2c9b456420e4ca30e4c305112f5c53af02ce1c3e60b113aaf25ff9154e4f7727", func := "trammel/trammellaw05.GsoNear", spec := "gsoNear", unfollowed := true, recurses := true, apart := false, narrowed := true }
def GsoNearUptoSaid : Prop := gsoNearUptoRow.holds Try.pinned (OpenSpec.upto gsoNearSpec)

/-- 'trammellaw09.IvalSteps', WHERE WHAT IT READS IS OF BULK AT MOST 1048576: true; the input reads as it did. -/
def ivalStepsUptoRow : OpenClaim := { program := "ytmfgnbchehnpjaa", sum := "2c9b456420e4ca30e4c305112f5c53af02ce1c3e60b113aaf25ff9154e4f7727", func := "trammel/trammellaw09.IvalSteps", spec := "ivalSteps", inPlace := ["math.Float64frombits", "math.Float64bits"], apart := false, narrowed := true }
def IvalStepsUptoSaid : Prop := ivalStepsUptoRow.holds Try.pinned (OpenSpec.upto ivalStepsSpec)

/-- 'trammellaw09.IvalSums', WHERE WHAT IT READS IS OF BULK AT MOST 1048576: true; the input reads as it did. -/
def ivalSumsUptoRow : OpenClaim := { program := "ytmfgnbchehnpjaa", sum := "2c9b456420e4ca30e4c305112f5c53af02ce1c3e60b113aaf25ff9154e4f7727", func := "trammel/trammellaw09.IvalSums", spec := "ivalSums", inPlace := ["math.Float64frombits", "math.Float64bits"], apart := false, narrowed := true }
def IvalSumsUptoSaid : Prop := ivalSumsUptoRow.holds Try.pinned (OpenSpec.upto ivalSumsSpec)

/-- 'trammellaw09.IvalOrders', WHERE WHAT IT READS IS OF BULK AT MOST 1048576: true; the input reads as it did. -/
def ivalOrdersUptoRow : OpenClaim := { program := "ytmfgnbchehnpjaa", sum := "2c9b456420e4ca30e4c305112f5c53af02ce1c3e60b113aaf25ff9154e4f7727", func := "trammel/trammellaw09.IvalOrders", spec := "ivalOrders", inPlace := ["math.Float64bits", "math.Float64frombits"], unfollowed := true, recurses := true, apart := false, narrowed := true }
def IvalOrdersUptoSaid : Prop := ivalOrdersUptoRow.holds Try.pinned (OpenSpec.upto ivalOrdersSpec)

/-- 'trammellaw09.IvalProducts', WHERE WHAT IT READS IS OF BULK AT MOST 1048576: true; the input reads as it did. -/
def ivalProductsUptoRow : OpenClaim := { program := "ytmfgnbchehnpjaa", sum := "2c9b456420e4ca30e4c305112f5c53af02ce1c3e60b113aaf25ff9154e4f7727", func := "trammel/trammellaw09.IvalProducts", spec := "ivalProducts", inPlace := ["math.Float64frombits", "math.Float64bits"], apart := false, narrowed := true }
def IvalProductsUptoSaid : Prop := ivalProductsUptoRow.holds Try.pinned (OpenSpec.upto ivalProductsSpec)

end Rows
end Go.Proofs.Ytmfgnbchehnpjaa
