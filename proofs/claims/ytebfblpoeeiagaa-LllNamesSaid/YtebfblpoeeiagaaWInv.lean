/- Words of a walk, as far as this seat's texts use them (the print wrote them for the seat; a program of this session has left out the others). -/
import Derived.Test.YtebfblpoeeiagaaWTab
namespace Go.Proofs.YtebfblpoeeiagaaW.PrintLast
def up (b : Nat → Bool) (i : Nat) : Nat → Bool := fun j => if j = i then true else b j
section
variable {P : Program} {ops : Array Oper} {Q : Exit → Act → World → Prop} {md : Region.Mode} {T : Bool × List (List Nat × List Nat)} {B : List Nat} {O : List Nat} {b : Nat → Bool} {i j n : Nat}
end
end Go.Proofs.YtebfblpoeeiagaaW.PrintLast
