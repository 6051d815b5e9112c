/- The law LllNames, off what its functions answer: a closed reckoning. -/
import Derived.Test.YtebfblpoeeiagaaQL14
namespace Go.Proofs.Ytebfblpoeeiagaa.Pure
open Go.RowKit Go.Proofs.Ytebfblpoeeiagaa.QL Go.Proofs.YtebfblpoeeiagaaW.PrintWords Go.Proofs.YtebfblpoeeiagaaW.PrintLast

theorem LllNames : trammellaw07_LllNames.Pure := ⟨20, by kernel_rfl⟩

end Go.Proofs.Ytebfblpoeeiagaa.Pure
