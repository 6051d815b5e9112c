/- The law of the parts of data. -/
import Derived.Test.YtlmiadjogdfjkaaKB
set_option linter.unusedVariables false
set_option linter.unusedSimpArgs false
set_option maxRecDepth 100000
namespace Go.Proofs.Ytlmiadjogdfjkaa.V
open Go.RowKit Mt Nml
end Go.Proofs.Ytlmiadjogdfjkaa.V
