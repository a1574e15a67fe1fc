/- What the law's proof leans on. No condition. -/
import Derived.Test.YtjnnhlbfgnopiaaGreatDoorPCAO
import Derived.Laws.Externs
import Derived.Lib.Bytealg
import Derived.Shelf.GgSortFunc.InsertionK
import Derived.Shelf.SlSortCmp.Insertion
namespace Go.Kw
open Go.Lib Go.Sort Go.Proofs
set_option linter.unusedVariables false
/-! ### The order of octets -/
/-! ### Rows of sums, sorted -/
abbrev Sum32 := { l : List UInt8 // l.length = 32 }
instance : Inhabited Sum32 := ⟨⟨List.replicate 32 0, by simp⟩⟩
theorem S32.of (ds : List Sum32) : S32 (ds.map (·.1)) := by
  intro s hs
  obtain ⟨x, _, rfl⟩ := List.mem_map.1 hs
  exact x.2
end Go.Kw
