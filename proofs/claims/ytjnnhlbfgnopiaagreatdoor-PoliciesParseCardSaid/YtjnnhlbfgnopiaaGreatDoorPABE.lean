/- What the law's proof leans on. No condition. -/
import Derived.Test.YtjnnhlbfgnopiaaGreatDoorPAAQ
namespace Go.Kw
set_option linter.unusedVariables false
set_option linter.unusedSimpArgs false
/-- An order that a sort can lean on. -/
structure TOrd {α : Type} (le : α → α → Bool) : Prop where
  tr : ∀ a b c, le a b = true → le b c = true → le a c = true
  tot : ∀ a b, (le a b || le b a) = true
  anti : ∀ a b, le a b = true → le b a = true → a = b
section
variable {α : Type} [Inhabited α] [DecidableEq α]
variable {le : α → α → Bool}
end
end Go.Kw
