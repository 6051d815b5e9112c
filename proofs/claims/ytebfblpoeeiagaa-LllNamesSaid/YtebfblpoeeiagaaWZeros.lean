/- Words of a walk, as far as this seat's texts use them (the print wrote them for the seat; a program of this session has left out the others). -/
import Derived.Test.YtebfblpoeeiagaaWApart
import Derived.Test.YtebfblpoeeiagaaWArr
namespace Go.Proofs.YtebfblpoeeiagaaW.PrintWords
open Go.RowKit
section
variable {P : Program}
end
namespace Kd
section
variable {P : Program} {ops : Array Oper} {rest : List Oper} {o : Oper} {a : Act} {Q : Exit → Act → World → Prop} {Kc : Act → World → Prop} {α : Type}
end
section
variable {α : Type} {d : Kd α} {e : Nat} {w : World} {base : Nat} {ok : Nat → Prop} {v : Value} {xs : List α}
end
section
variable {P : Program} {ops : Array Oper} {rest : List Oper} {o : Oper} {a : Act} {Q : Exit → Act → World → Prop} {Kc : Act → World → Prop} {α : Type}
end
end Kd
end Go.Proofs.YtebfblpoeeiagaaW.PrintWords
