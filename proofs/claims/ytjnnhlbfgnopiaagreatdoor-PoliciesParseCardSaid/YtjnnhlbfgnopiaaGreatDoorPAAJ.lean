/- What the law's proof leans on. No condition. -/
import Derived.Test.YtjnnhlbfgnopiaaGreatDoorPAAF
import Derived.Test.YtjnnhlbfgnopiaaGreatDoorPAAC
namespace Go.Kw
set_option linter.unusedVariables false
set_option linter.unusedSimpArgs false
section
variable {P : Program} {ρ : Operand → Value} {w w0 : World} {M : List Nat} {L l1 l2 : List Item} {dst : Option Tmp} {ty : TypeId} {pos : String} {aft : Array Edge} {g : Option (Nat × Bool)} {x y z : Operand} {T T2 E : TypeId} {v : Value} {k : IntKind}

theorem r_lenStrL {l : List UInt8} {tys : Array TypeId} (ht : tys[0]? = some T) (hT : P.underlying T = some .string) (hx : ρ x = .string ⟨l.toArray⟩) (args : Array Operand) (ha : args = #[x]) :
    (execOp ρ ⟨dst, .call { callee := .builtin .len, args := args, argTypes := tys }, ty, pos, aft, g⟩).run P w = .ok (.value (vi l.length)) w := r_lenStr ht hT hx args ha
theorem str_inj {a b : List UInt8} : ((⟨a.toArray⟩ : ByteArray) = ⟨b.toArray⟩) ↔ a = b := by
  constructor
  · intro h
    have := congrArg (fun s : ByteArray => s.data.toList) h
    simpa using this
  · intro h; rw [h]
theorem r_eqlStrL {a b : List UInt8} (hx : ρ x = .string ⟨a.toArray⟩) (hy : ρ y = .string ⟨b.toArray⟩) : (execOp ρ ⟨dst, .binOp .eql T x y T2, ty, pos, aft, g⟩).run P w = .ok (.value (.bool (decide (a = b)))) w := by
  rw [r_eqlStr hx hy]; simp only [str_inj]
theorem r_neqStrL {a b : List UInt8} (hx : ρ x = .string ⟨a.toArray⟩) (hy : ρ y = .string ⟨b.toArray⟩) : (execOp ρ ⟨dst, .binOp .neq T x y T2, ty, pos, aft, g⟩).run P w = .ok (.value (.bool (decide (¬ a = b)))) w := by
  rw [r_neqStr hx hy]; simp only [str_inj]
end

/-- What the world below says: nothing old has turned. -/
theorem St.of_below {w w' : World} (h : Go.RowKit.Below w.heap.size w w') : St w [] w' [] :=
  ⟨h.os, h.tape, h.output, h.size, fun k hk _ => h.block k hk, by simp, by simp⟩

/-- An octet that a name may hold. -/
def nameB (c : UInt8) : Bool := decide ((97 ≤ c.toNat ∧ c.toNat ≤ 122) ∨ (48 ≤ c.toNat ∧ c.toNat ≤ 57) ∨ c.toNat = 45 ∨ c.toNat = 46 ∨ c.toNat = 95)
/-- Is this a name. -/
def nameE (l : List UInt8) : Bool := l.all nameB && decide (¬ l = []) && decide (l.length ≤ 32)
theorem nameB_t {c : UInt8} (h : (97 ≤ c.toNat ∧ c.toNat ≤ 122) ∨ (48 ≤ c.toNat ∧ c.toNat ≤ 57) ∨ c.toNat = 45 ∨ c.toNat = 46 ∨ c.toNat = 95) : nameB c = true := by rw [nameB, decide_eq_true h]
theorem nameB_f {c : UInt8} (h : ¬ ((97 ≤ c.toNat ∧ c.toNat ≤ 122) ∨ (48 ≤ c.toNat ∧ c.toNat ≤ 57) ∨ c.toNat = 45 ∨ c.toNat = 46 ∨ c.toNat = 95)) : nameB c = false := by rw [nameB, decide_eq_false h]
theorem take_all_step {p : UInt8 → Bool} {l : List UInt8} {n : Nat} (hn : n < l.length) (h : (l.take n).all p = true) (hp : p (gt l n) = true) : (l.take (n + 1)).all p = true := by
  rw [List.take_add_one, List.all_append, h]
  have : l[n]? = some (gt l n) := by simp [gt, hn]
  simp [this, hp]
theorem nameE_f {l : List UInt8} {n : Nat} (hn : n < l.length) (hp : nameB (gt l n) = false) : nameE l = false := by
  have : l.all nameB = false := by
    rw [Bool.eq_false_iff]
    intro h
    have hm : gt l n ∈ l := by simp [gt, hn]
    have := List.all_eq_true.1 h _ hm
    rw [hp] at this; cases this
  simp [nameE, this]
end Go.Kw
