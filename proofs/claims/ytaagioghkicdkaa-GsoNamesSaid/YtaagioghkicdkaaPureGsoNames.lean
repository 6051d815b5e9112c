/- The law GsoNames, off what its functions answer: a closed reckoning. -/
import Derived.Test.YtaagioghkicdkaaQGsoNames9
namespace Go.Proofs.Ytaagioghkicdkaa.Pure
open Go.RowKit Go.Proofs.Ytaagioghkicdkaa.QGsoNames Go.Proofs.YtaagioghkicdkaaW.PrintWords Go.Proofs.YtaagioghkicdkaaW.PrintLast

theorem GsoNames : trammellaw05_GsoNames.Pure := ⟨20, by kernel_rfl⟩

end Go.Proofs.Ytaagioghkicdkaa.Pure
