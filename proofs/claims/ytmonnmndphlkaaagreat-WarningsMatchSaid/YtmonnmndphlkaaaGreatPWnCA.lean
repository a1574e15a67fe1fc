/- What the law's proof leans on. No condition. -/
import Derived.Test.YtmonnmndphlkaaaGreatPWnBW
namespace Go.Kw
set_option linter.unusedVariables false
set_option linter.unusedSimpArgs false
theorem db_eq {d e : DB} (h1 : d.1 = e.1) (h2 : d.2.1 = e.2.1) (h3 : d.2.2 = e.2.2) : d = e := Prod.ext h1 (Prod.ext h2 h3)
theorem db_1 {d e : DB} (h : ¬ d.1 = e.1) : ¬ d = e := fun h' => h (by rw [h'])
theorem db_2 {d e : DB} (h : ¬ d.2.1 = e.2.1) : ¬ d = e := fun h' => h (by rw [h'])
theorem db_3 {d e : DB} (h : ¬ d.2.2 = e.2.2) : ¬ d = e := fun h' => h (by rw [h'])
end Go.Kw
