/- What the law's proof leans on. No condition. -/
import Derived.Test.YtjnnhlbfgnopiaaGreatDoorPAAS
import Derived.Test.YtjnnhlbfgnopiaaGreatDoorPAAN
import Derived.Laws.StructEq
namespace Go.Kw
set_option linter.unusedVariables false
set_option linter.unusedSimpArgs false
section
variable {P : Program} {ρ : Operand → Value} {w w0 : World} {M : List Nat} {L l1 l2 : List Item} {dst : Option Tmp} {ty : TypeId} {pos : String} {aft : Array Edge} {g : Option (Nat × Bool)} {x y z : Operand} {T T2 E I : TypeId} {v : Value} {k : IntKind}
  {d dE : TypeDesc} {sz bts b o : Nat} {zv : Value} {a : Option Addr} {cs C : List Value}
/-! ### Structures, field by field -/
/-! ### Heads -/
/-- The cells of a head. -/
def headV (ct tm : Int) (la ro : List UInt8) : List Value := [Value.int .i64 ct, Value.int .i64 tm] ++ (la.map b8 ++ ro.map b8)
@[simp] theorem headV_len {ct tm : Int} {la ro : List UInt8} (hla : la.length = 32) (hro : ro.length = 32) : (headV ct tm la ro).length = 66 := by simp [headV, hla, hro]
end
end Go.Kw
