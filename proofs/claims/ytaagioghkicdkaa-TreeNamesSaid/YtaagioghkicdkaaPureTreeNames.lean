/- The law TreeNames, off what its functions answer: a closed reckoning. -/
import Derived.Test.YtaagioghkicdkaaQT6
namespace Go.Proofs.Ytaagioghkicdkaa.Pure
open Go.RowKit Go.Proofs.Ytaagioghkicdkaa.QT Go.Proofs.YtaagioghkicdkaaW.PrintWords Go.Proofs.YtaagioghkicdkaaW.PrintLast

theorem TreeNames : trammellaw11_TreeNames.Pure := ⟨20, by kernel_rfl⟩

end Go.Proofs.Ytaagioghkicdkaa.Pure
