/- What the law's proof leans on. No condition. -/
import Derived.Test.YtmonnmndphlkaaaGreatPWmBF
import Derived.Test.YtmonnmndphlkaaaGreatPWmBQ
import Derived.Test.YtmonnmndphlkaaaGreatPWmAO
import Derived.Test.YtmonnmndphlkaaaGreatPWmAF
import Derived.Lib.AppendStr
import Derived.ChangeMaps5
import Derived.Laws.IdiomStrings
namespace Go.Kw
set_option linter.unusedVariables false
set_option linter.unusedSimpArgs false
/-- The same rules, in whatever order. -/
def Same (rs rs' : List RuleD) : Prop := rs.length = rs'.length ∧ ∀ r, r ∈ rs ↔ r ∈ rs'
theorem Same.refl (rs : List RuleD) : Same rs rs := ⟨rfl, fun _ => Iff.rfl⟩
theorem Same.trans {a b c : List RuleD} (h : Same a b) (h' : Same b c) : Same a c := ⟨h.1.trans h'.1, fun r => (h.2 r).trans (h'.2 r)⟩
section
variable {P : Program} {ρ : Operand → Value} {w w0 : World} {M : List Nat} {L l1 l2 : List Item} {dst : Option Tmp} {ty : TypeId} {pos : String} {aft : Array Edge} {g : Option (Nat × Bool)} {x y z : Operand} {T T2 E I : TypeId} {v : Value} {k : IntKind}
  {d dE : TypeDesc} {sz bts b o : Nat} {zv : Value} {a : Option Addr} {cs C : List Value}
theorem r_ixP {len cap m : Nat} (h : P.underlying T = some (.slice E)) (hE : TI P E dE sz bts zv) (hx : ρ x = .slice (some ⟨b, 0, none⟩) len cap) (hy : ρ y = .int k (m : Int)) (hm : m < len) :
    (execOp ρ ⟨dst, .indexAddr T x y, ty, pos, aft, g⟩).run P w = .ok (.value (pt b (m * sz))) w := by
  have h0 : (0 : Int) ≤ (m : Int) ∧ (m : Int) < (len : Int) := by omega
  simp [execOp, hx, hy, Instr.indexAt, asIntOf, run_underlying h, run_sizeOf hE, hm, add_lit]
end
end Go.Kw
