/- What the law's proof leans on. No condition. -/
import Derived.Test.YtmonnmndphlkaaaGreatPWnBG
import Derived.Test.YtmonnmndphlkaaaGreatPWnBR
import Derived.Test.YtmonnmndphlkaaaGreatPWnAP
import Derived.Test.YtmonnmndphlkaaaGreatPWnAF
import Derived.Lib.AppendStr
import Derived.ChangeMaps5
import Derived.Laws.IdiomStrings
namespace Go.Kw
set_option linter.unusedVariables false
set_option linter.unusedSimpArgs false
theorem one_flat (l : List RuleD) : One (l.flatMap RuleD.v) := by
  intro c hc
  obtain ⟨r, _, h⟩ := List.mem_flatMap.1 hc
  exact one_rule r c h
/-- The same rules, in whatever order. -/
def Same (rs rs' : List RuleD) : Prop := rs.length = rs'.length ∧ ∀ r, r ∈ rs ↔ r ∈ rs'
theorem Same.refl (rs : List RuleD) : Same rs rs := ⟨rfl, fun _ => Iff.rfl⟩
theorem Same.trans {a b c : List RuleD} (h : Same a b) (h' : Same b c) : Same a c := ⟨h.1.trans h'.1, fun r => (h.2 r).trans (h'.2 r)⟩
section
variable {P : Program} {ρ : Operand → Value} {w w0 : World} {M : List Nat} {L l1 l2 : List Item} {dst : Option Tmp} {ty : TypeId} {pos : String} {aft : Array Edge} {g : Option (Nat × Bool)} {x y z : Operand} {T T2 E I : TypeId} {v : Value} {k : IntKind}
  {d dE : TypeDesc} {sz bts b o : Nat} {zv : Value} {a : Option Addr} {cs C : List Value}
end
theorem flat_drop8 (l : List RuleD) : ∀ k, (l.flatMap RuleD.v).drop (k * 8) = (l.drop k).flatMap RuleD.v := by
  induction l with
  | nil => intro k; simp
  | cons r l ih =>
    intro k
    cases k with
    | zero => simp
    | succ k =>
      have e : (k + 1) * 8 = r.v.length + k * 8 := by rw [rule_v8]; omega
      rw [List.flatMap_cons, e, ← List.drop_drop, List.drop_left, ih k]; rfl
theorem flat_take8 (l : List RuleD) : ∀ k, (l.flatMap RuleD.v).take (k * 8) = (l.take k).flatMap RuleD.v := by
  induction l with
  | nil => intro k; simp
  | cons r l ih =>
    intro k
    cases k with
    | zero => simp
    | succ k =>
      have e : (k + 1) * 8 = r.v.length + k * 8 := by rw [rule_v8]; omega
      rw [List.flatMap_cons, e, List.take_length_add_append, ih k]; rfl
theorem Row.from8 {w : World} {a : Option Addr} {c : Nat} {l : List RuleD} (h : Row w a (l.flatMap RuleD.v)) (hc : l.length ≤ c) (k : Nat) : Row w (Kw.sub a c k 8) ((l.drop k).flatMap RuleD.v) := by
  have := h.sub (cap := c) (l := k) (sz := 8) (by rw [flatM_len rule_v8]; exact Nat.mul_le_mul_right _ hc)
  rwa [flat_drop8] at this
end Go.Kw
