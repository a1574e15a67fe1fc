/- What the law's proof leans on. No condition. -/
import Derived.Test.YtjnnhlbfgnopiaaGreatDoorPAAJ
import Derived.Test.YtjnnhlbfgnopiaaGreatDoorPAAM
namespace Go.Kw
set_option linter.unusedVariables false
set_option linter.unusedSimpArgs false
def natN (l : List UInt8) : Nat := l.foldl (fun n c => n * 256 + c.toNat) 0
def sgN (n : Nat) : Int := IntKind.i64.wrap (n : Int)
section
variable {P : Program} {ρ : Operand → Value} {w : World} {dst : Option Tmp} {ty : TypeId} {pos : String} {aft : Array Edge} {g : Option (Nat × Bool)} {x y : Operand} {T T2 : TypeId}
end
section
variable {P : Program} {ρ : Operand → Value} {w : World} {dst : Option Tmp} {ty : TypeId} {pos : String} {aft : Array Edge} {g : Option (Nat × Bool)} {T : TypeId} {d : TypeDesc} {sz bts : Nat} {zv : Value}
end
end Go.Kw
