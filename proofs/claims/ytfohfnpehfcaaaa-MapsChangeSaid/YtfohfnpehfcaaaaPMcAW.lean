/- What the law's proof leans on. No condition. -/
import Derived.Test.YtfohfnpehfcaaaaPMcAH
import Derived.Test.YtfohfnpehfcaaaaPMcAQ
namespace Go.Proofs.Ytfohfnpehfcaaaa
open Go.Kw
set_option linter.unusedVariables false
set_option linter.unusedSimpArgs false
set_option maxRecDepth 100000
theorem sumKeys : SumKeys Try.prog 49 := ⟨Go.WideMaps.ArrKey.law ⟨Try.underlying49, (by kernel_rfl), (by kernel_rfl), (by kernel_rfl)⟩, sum_key Try.underlying49 Try.underlying5 (by kernel_rfl) (by kernel_rfl) (by kernel_rfl) ⟨254, by kernel_rfl⟩⟩

end Go.Proofs.Ytfohfnpehfcaaaa
