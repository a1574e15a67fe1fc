/- What the law's proof leans on. No condition. -/
import Derived.Test.YtjnnhlbfgnopiaaGreatDoorPCAK
import Derived.Test.YtjnnhlbfgnopiaaGreatDoorPCAO
namespace Go.Kw
set_option linter.unusedVariables false
set_option linter.unusedSimpArgs false
section
variable {P : Program} {ρ : Operand → Value} {w w0 : World} {M : List Nat} {L l1 l2 : List Item} {dst : Option Tmp} {ty : TypeId} {pos : String} {aft : Array Edge} {g : Option (Nat × Bool)} {x y z : Operand} {T T2 E I : TypeId} {v : Value} {k k2 : IntKind}
theorem r_addStrL {a b : List UInt8} (hlen : a.length + b.length ≤ 9223372036854775807) (hx : ρ x = .string ⟨a.toArray⟩) (hy : ρ y = .string ⟨b.toArray⟩) : (execOp ρ ⟨dst, .binOp .add T x y T2, ty, pos, aft, g⟩).run P w = .ok (.value (.string ⟨(a ++ b).toArray⟩)) w := by
  have he : (eqGuard .add T x y (.string ⟨a.toArray⟩) (.string ⟨b.toArray⟩)).run P w = .ok () w := by unfold eqGuard; simp
  have e : (⟨a.toArray⟩ : ByteArray) ++ ⟨b.toArray⟩ = ⟨(a ++ b).toArray⟩ := by
    apply ByteArray.ext
    rw [ByteArray.data_append]; simp
  have hno : ¬ (((⟨a.toArray⟩ : ByteArray).size + (⟨b.toArray⟩ : ByteArray).size : Nat) : Int) > IntKind.i64.max := by
    have h1 : (⟨a.toArray⟩ : ByteArray).size = a.length := rfl
    have h2 : (⟨b.toArray⟩ : ByteArray).size = b.length := rfl
    have h3 : IntKind.i64.max = 9223372036854775807 := rfl
    rw [h1, h2, h3]; omega
  simp only [execOp, hx, hy, Sem.run_bind, he, Result.andThen_ok, binOp, Op.stringOp, e, if_neg hno, Sem.run_pure]
end
/-- Octet by octet. -/
def xor32 (a b : List UInt8) (k : Nat) : List UInt8 := (List.range 32).map fun j => if j < k then gt a j ^^^ gt b j else gt a j
@[simp] theorem xor32_len (s b : List UInt8) (k : Nat) : (xor32 s b k).length = 32 := by simp [xor32]
end Go.Kw
