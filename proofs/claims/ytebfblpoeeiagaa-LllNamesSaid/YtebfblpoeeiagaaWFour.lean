/- Words of a walk, as far as this seat's texts use them (the print wrote them for the seat; a program of this session has left out the others). -/
import Derived.Test.YtebfblpoeeiagaaWTab
namespace Go.Proofs.YtebfblpoeeiagaaW.PrintLast
section
variable {P : Program} {ops : Array Oper} {Q : Exit → Act → World → Prop} {md : Region.Mode} {S : World → Prop} {ds : List Nat} {T : Bool × List (List Nat × List Nat)}
end
end Go.Proofs.YtebfblpoeeiagaaW.PrintLast
