/- A decision that is none. No condition. -/
import Derived.Test.YtafdmlpfgpaicaaFacts
import Derived.Test.YtafdmlpfgpaicaaApprA
namespace Go.Proofs.Ytafdmlpfgpaicaa
open Go.Kw
set_option linter.unusedVariables false
set_option linter.unusedSimpArgs false
set_option maxRecDepth 100000
theorem tidz : TI Try.prog 50 sd50 4 40 (.agg (decV false 0 0 []).toArray) := ti50

end Go.Proofs.Ytafdmlpfgpaicaa
