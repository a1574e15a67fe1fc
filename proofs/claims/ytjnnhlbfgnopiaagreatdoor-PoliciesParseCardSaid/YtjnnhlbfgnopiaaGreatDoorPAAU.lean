/- What the law's proof leans on. No condition. -/
import Derived.Test.YtjnnhlbfgnopiaaGreatDoorPAAK
import Derived.Test.YtjnnhlbfgnopiaaGreatDoorPAAQ
namespace Go.Kw
set_option linter.unusedVariables false
set_option linter.unusedSimpArgs false
section
variable {P : Program} {ρ : Operand → Value} {w w0 : World} {M : List Nat} {L l1 l2 : List Item} {dst : Option Tmp} {ty : TypeId} {pos : String} {aft : Array Edge} {g : Option (Nat × Bool)} {x y z : Operand} {T T2 E I : TypeId} {v : Value} {k k2 : IntKind}
end
/-- Octet by octet. -/
def xor32 (a b : List UInt8) (k : Nat) : List UInt8 := (List.range 32).map fun j => if j < k then gt a j ^^^ gt b j else gt a j
@[simp] theorem xor32_len (s b : List UInt8) (k : Nat) : (xor32 s b k).length = 32 := by simp [xor32]
end Go.Kw
