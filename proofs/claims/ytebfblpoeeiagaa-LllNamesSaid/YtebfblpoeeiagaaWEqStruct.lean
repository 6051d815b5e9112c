/- Words of a walk, as far as this seat's texts use them (the print wrote them for the seat; a program of this session has left out the others). -/
import Derived.Test.YtebfblpoeeiagaaWWords
import Derived.Laws.StructEq
namespace Go.Proofs.YtebfblpoeeiagaaW.PrintWords
open Go.RowKit
section
variable {P : Program} {d : Nat} {xs ys : Array Value} {f : Field} {fs : List Field} {a b : Value} {r s : Bool} {w : World}
end
end Go.Proofs.YtebfblpoeeiagaaW.PrintWords
