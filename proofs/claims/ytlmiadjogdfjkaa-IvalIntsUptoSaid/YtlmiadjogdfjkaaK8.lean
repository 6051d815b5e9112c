/- Contracts: the numbers of the data of rows. -/
import Derived.Test.YtlmiadjogdfjkaaK7
set_option linter.unusedVariables false
set_option linter.unusedSimpArgs false
set_option maxRecDepth 100000
namespace Go.Proofs.Ytlmiadjogdfjkaa.V
open Go.RowKit Mt Nml
theorem GoodP.pos {D : List Int} {L : List (List Int)} (h : GoodP D L) {i : Nat} (hi : i ≤ L.length) : 0 < D.getD i 0 := by
  cases i with
  | zero => rw [h.2.2.1]; decide
  | succ j => exact (h.2.2.2 j (by omega)).2
abbrev ZQ : T := T.st [T.c (.bool false), T.c (.slice none 0 0), T.c (.bool false), T.c (.slice none 0 0)]

end Go.Proofs.Ytlmiadjogdfjkaa.V
