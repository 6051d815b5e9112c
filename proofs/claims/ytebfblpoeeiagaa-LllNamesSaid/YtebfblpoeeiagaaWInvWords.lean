/- Words of a walk, as far as this seat's texts use them (the print wrote them for the seat; a program of this session has left out the others). -/
import Derived.Test.YtebfblpoeeiagaaWInv
import Derived.Test.YtebfblpoeeiagaaWFootNe
namespace Go.Proofs.YtebfblpoeeiagaaW.PrintWords
open Go.RowKit
end Go.Proofs.YtebfblpoeeiagaaW.PrintWords
namespace Go.Proofs.YtebfblpoeeiagaaW.PrintLast
section
variable {ops : Array Oper} {a : Act} {o og : Oper} {g : Nat} {t : Tmp} {u : Bool}
end
end Go.Proofs.YtebfblpoeeiagaaW.PrintLast
