/- What the law's proof leans on. No condition. -/
import Derived.Test.YtkoknlcegiemnaaDoorPFiAG
import Derived.Test.YtkoknlcegiemnaaDoorPFiAC
namespace Go.Kw
set_option linter.unusedVariables false
set_option linter.unusedSimpArgs false
section
variable {P : Program} {ρ : Operand → Value} {w w0 : World} {M : List Nat} {L l1 l2 : List Item} {dst : Option Tmp} {ty : TypeId} {pos : String} {aft : Array Edge} {g : Option (Nat × Bool)} {x y z : Operand} {T T2 E : TypeId} {v : Value} {k : IntKind}

theorem r_lenStrL {l : List UInt8} {tys : Array TypeId} (ht : tys[0]? = some T) (hT : P.underlying T = some .string) (hx : ρ x = .string ⟨l.toArray⟩) (args : Array Operand) (ha : args = #[x]) :
    (execOp ρ ⟨dst, .call { callee := .builtin .len, args := args, argTypes := tys }, ty, pos, aft, g⟩).run P w = .ok (.value (vi l.length)) w := r_lenStr ht hT hx args ha
theorem str_inj {a b : List UInt8} : ((⟨a.toArray⟩ : ByteArray) = ⟨b.toArray⟩) ↔ a = b := by
  constructor
  · intro h
    have := congrArg (fun s : ByteArray => s.data.toList) h
    simpa using this
  · intro h; rw [h]
theorem r_eqlStrL {a b : List UInt8} (hx : ρ x = .string ⟨a.toArray⟩) (hy : ρ y = .string ⟨b.toArray⟩) : (execOp ρ ⟨dst, .binOp .eql T x y T2, ty, pos, aft, g⟩).run P w = .ok (.value (.bool (decide (a = b)))) w := by
  rw [r_eqlStr hx hy]; simp only [str_inj]
theorem r_neqStrL {a b : List UInt8} (hx : ρ x = .string ⟨a.toArray⟩) (hy : ρ y = .string ⟨b.toArray⟩) : (execOp ρ ⟨dst, .binOp .neq T x y T2, ty, pos, aft, g⟩).run P w = .ok (.value (.bool (decide (¬ a = b)))) w := by
  rw [r_neqStr hx hy]; simp only [str_inj]
end

/-- What the world below says: nothing old has turned. -/
theorem St.of_below {w w' : World} (h : Go.RowKit.Below w.heap.size w w') : St w [] w' [] :=
  ⟨h.os, h.tape, h.output, h.size, fun k hk _ => h.block k hk, by simp, by simp⟩

end Go.Kw
