/- Growth. No condition. -/
import Derived.Test.YtfohfnpehfcaaaaDoorFacts
import Derived.Test.YtfohfnpehfcaaaaDoorTreeB
namespace Go.Proofs.YtfohfnpehfcaaaaDoor
open Go.Kw
set_option linter.unusedVariables false
set_option linter.unusedSimpArgs false
set_option maxRecDepth 100000

end Go.Proofs.YtfohfnpehfcaaaaDoor
