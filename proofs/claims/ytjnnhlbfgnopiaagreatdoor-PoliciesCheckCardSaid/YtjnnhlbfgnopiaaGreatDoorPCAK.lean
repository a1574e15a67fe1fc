/- What the law's proof leans on. No condition. -/
import Derived.Test.YtjnnhlbfgnopiaaGreatDoorPCAG
import Derived.Laws.Externs
import Derived.Lib.Bytealg
namespace Go.Kw
open Go.Lib
set_option linter.unusedVariables false
set_option linter.unusedSimpArgs false
section
variable {P : Program} {ρ : Operand → Value} {w w0 : World} {M : List Nat} {L l1 l2 : List Item} {dst : Option Tmp} {ty : TypeId} {pos : String} {aft : Array Edge} {g : Option (Nat × Bool)} {x y z : Operand} {T T2 E I : TypeId} {v : Value} {k : IntKind}
  {d dE : TypeDesc} {sz bts b o : Nat} {zv : Value} {a : Option Addr} {cs C : List Value}
theorem ext_str (l : List UInt8) (i j : Nat) : (⟨l.toArray⟩ : ByteArray).extract i j = ⟨((l.drop i).take (j - i)).toArray⟩ := by
  apply ByteArray.ext
  rw [ByteArray.data_extract]
  apply Array.ext'
  simp [List.drop_take]
theorem r_slStr_l {l : List UInt8} {i : Nat} (hT : P.underlying T = some .string) (hx : ρ x = .string ⟨l.toArray⟩) (hy : ρ y = .int k (i : Int)) (hi : i ≤ l.length) :
    (execOp ρ ⟨dst, .slice T x (some y) none none, ty, pos, aft, g⟩).run P w = .ok (.value (.string ⟨(l.drop i).toArray⟩)) w := by
  have hs : (⟨l.toArray⟩ : ByteArray).size = l.length := rfl
  have e : (⟨l.toArray⟩ : ByteArray).extract i l.length = ⟨(l.drop i).toArray⟩ := by
    rw [ext_str, List.take_of_length_le (by rw [List.length_drop]; omega)]
  simp [execOp, hx, hy, Instr.sliceAt, Instr.slice, Instr.sliceBounds, run_underlying hT, hs, bound_ok hi, e]
theorem r_slStr_h {l : List UInt8} {i : Nat} (hT : P.underlying T = some .string) (hx : ρ x = .string ⟨l.toArray⟩) (hz : ρ z = .int k (i : Int)) (hi : i ≤ l.length) :
    (execOp ρ ⟨dst, .slice T x none (some z) none, ty, pos, aft, g⟩).run P w = .ok (.value (.string ⟨(l.take i).toArray⟩)) w := by
  have hs : (⟨l.toArray⟩ : ByteArray).size = l.length := rfl
  have e : (⟨l.toArray⟩ : ByteArray).extract 0 i = ⟨(l.take i).toArray⟩ := by
    rw [ext_str]; rfl
  simp [execOp, hx, hz, Instr.sliceAt, Instr.slice, Instr.sliceBounds, run_underlying hT, hs, bound_ok hi, e]
end
/-- Does a text end so. -/
def sfx (l t : List UInt8) : Bool := decide (t.length ≤ l.length ∧ l.drop (l.length - t.length) = t)
def pfx (l t : List UInt8) : Bool := decide (t.length ≤ l.length ∧ l.take t.length = t)
theorem sfx_t {l t : List UInt8} (h1 : t.length ≤ l.length) (h2 : l.drop (l.length - t.length) = t) : sfx l t = true := decide_eq_true ⟨h1, h2⟩
theorem sfx_f {l t : List UInt8} (h : ¬ (t.length ≤ l.length ∧ l.drop (l.length - t.length) = t)) : sfx l t = false := decide_eq_false h
theorem sfx_len {l t : List UInt8} (h : sfx l t = true) : t.length ≤ l.length := (of_decide_eq_true h).1
/-- What stands before a star, or all. -/
def headS (l : List UInt8) : List UInt8 := if sfx l [42] then l.take (l.length - 1) else l
/-- Is this a pattern. -/
def patE (l : List UInt8) : Bool := nameE (headS l) || (sfx l [42] && decide (headS l = []))
theorem headS_t {l : List UInt8} (h : sfx l [42] = true) : headS l = l.take (l.length - 1) := by rw [headS, if_pos h]
theorem headS_f {l : List UInt8} (h : sfx l [42] = false) : headS l = l := by rw [headS, if_neg (by rw [h]; decide)]
theorem headS_le (l : List UInt8) : (headS l).length ≤ l.length := by
  unfold headS
  split
  · rw [List.length_take]; omega
  · exact Nat.le_refl _
theorem patE_name {l : List UInt8} (h : nameE (headS l) = true) : patE l = true := by rw [patE, h, Bool.true_or]
end Go.Kw
