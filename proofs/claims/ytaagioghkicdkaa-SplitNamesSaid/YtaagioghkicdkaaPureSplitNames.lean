/- The law SplitNames, off what its functions answer: a closed reckoning. -/
import Derived.Test.YtaagioghkicdkaaQS6
namespace Go.Proofs.Ytaagioghkicdkaa.Pure
open Go.RowKit Go.Proofs.Ytaagioghkicdkaa.QS Go.Proofs.YtaagioghkicdkaaW.PrintWords Go.Proofs.YtaagioghkicdkaaW.PrintLast

theorem SplitNames : trammellaw13_SplitNames.Pure := ⟨20, by kernel_rfl⟩

end Go.Proofs.Ytaagioghkicdkaa.Pure
