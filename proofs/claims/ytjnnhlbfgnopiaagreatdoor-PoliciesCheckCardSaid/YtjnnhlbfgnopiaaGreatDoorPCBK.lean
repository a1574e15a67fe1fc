/- What the law's proof leans on. No condition. -/
import Derived.Test.YtjnnhlbfgnopiaaGreatDoorPCAI
import Derived.Test.YtjnnhlbfgnopiaaGreatDoorPCAV
import Derived.Test.YtjnnhlbfgnopiaaGreatDoorPCBI
import Derived.Test.YtjnnhlbfgnopiaaGreatDoorPCBJ
namespace Go.Proofs.YtjnnhlbfgnopiaaGreatDoor
open Go.Kw
set_option linter.unusedVariables false
set_option linter.unusedSimpArgs false
set_option maxRecDepth 100000
theorem isName_br (l : List UInt8) (w : World) (hl : l.length ≤ 9223372036854775807) : Ret Tryz.prog 100 [.string ⟨l.toArray⟩] w (fun v w' => (nameE l = true ∧ v = .bool true ∧ St w [] w' []) ∨ (nameE l = false ∧ v = .bool false ∧ St w [] w' [])) :=
  (isName_ok l w hl).mono fun v w' h => by
    cases hn : nameE l <;> rw [hn] at h
    · exact .inr ⟨rfl, h⟩
    · exact .inl ⟨rfl, h⟩
theorem risName_br (l : List UInt8) (w : World) (hl : l.length ≤ 9223372036854775807) : Ret Tryz.prog 52 [.string ⟨l.toArray⟩] w (fun v w' => (nameE l = true ∧ v = .bool true ∧ St w [] w' []) ∨ (nameE l = false ∧ v = .bool false ∧ St w [] w' [])) :=
  (risName_ok l w hl).mono fun v w' h => by
    cases hn : nameE l <;> rw [hn] at h
    · exact .inr ⟨rfl, h⟩
    · exact .inl ⟨rfl, h⟩

end Go.Proofs.YtjnnhlbfgnopiaaGreatDoor
