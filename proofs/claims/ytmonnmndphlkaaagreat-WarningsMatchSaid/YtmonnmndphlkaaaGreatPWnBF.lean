/- What the law's proof leans on. No condition. -/
import Derived.Test.YtmonnmndphlkaaaGreatPWnAP
import Derived.Test.YtmonnmndphlkaaaGreatPWnAJ
namespace Go.Kw
set_option linter.unusedVariables false
set_option linter.unusedSimpArgs false
section
variable {P : Program} {ρ : Operand → Value} {w : World} {dst : Option Tmp} {ty : TypeId} {pos : String} {aft : Array Edge} {g : Option (Nat × Bool)} {x y : Operand} {T T2 : TypeId}
end
section
variable {P : Program} {ρ : Operand → Value} {w : World} {dst : Option Tmp} {ty : TypeId} {pos : String} {aft : Array Edge} {g : Option (Nat × Bool)} {T : TypeId} {d : TypeDesc} {sz bts : Nat} {zv : Value}
/-- Some fields said, each of one cell. -/
theorem r_buildP {parts : Array (Nat × Operand)} {ps : List (Nat × Value)} {pl : List (Nat × Nat)} {out : List Value} (hp : placesOf P T = some pl) (hZ : TI P T d sz bts zv) (hv : parts.toList.map (fun x => (x.1, ρ x.2)) = ps) (hf : Instr.fill (pl.toArray[·]?) zv.cells ps = some out.toArray) :
    (execOp ρ ⟨dst, .build T parts, ty, pos, aft, g⟩).run P w = .ok (.value (.agg out.toArray)) w := by
  obtain ⟨fs, hT, hr⟩ := placesOf_run (w := w) hp
  exact r_build hT hZ hr hv hf
end
end Go.Kw
