/- What the law's proof leans on. No condition. -/
import Derived.Test.YtmonnmndphlkaaaGreatPPdBG
import Derived.Test.YtmonnmndphlkaaaGreatPPdBR
import Derived.Test.YtmonnmndphlkaaaGreatPPdAO
import Derived.Test.YtmonnmndphlkaaaGreatPPdAF
import Derived.Lib.AppendStr
import Derived.ChangeMaps5
import Derived.Laws.IdiomStrings
namespace Go.Kw
set_option linter.unusedVariables false
set_option linter.unusedSimpArgs false
def totalR (ps : List (Sl RuleD)) : Nat := (ps.map fun p => p.xs.length).sum
def joinedR (ps : List (Sl RuleD)) : List RuleD := ps.flatMap (·.xs)
theorem totalR_take (ps : List (Sl RuleD)) (k : Nat) (h : k < ps.length) : totalR (ps.take (k + 1)) = totalR (ps.take k) + (gt ps k).xs.length := by
  rw [List.take_succ_eq_append_getElem h, gt_eq _ _ h]
  simp only [totalR, List.map_append, List.sum_append, List.map_cons, List.map_nil, List.sum_cons, List.sum_nil, Nat.add_zero]
theorem totalR_le (ps : List (Sl RuleD)) (k : Nat) : totalR (ps.take k) ≤ totalR ps := by
  have : totalR ps = totalR (ps.take k) + totalR (ps.drop k) := by
    conv => lhs; rw [← List.take_append_drop k ps]
    simp only [totalR, List.map_append, List.sum_append]
  omega
theorem joinedR_take (ps : List (Sl RuleD)) (k : Nat) (h : k < ps.length) : joinedR (ps.take (k + 1)) = joinedR (ps.take k) ++ (gt ps k).xs := by
  rw [List.take_succ_eq_append_getElem h, gt_eq _ _ h]
  simp only [joinedR, List.flatMap_append, List.flatMap_cons, List.flatMap_nil, List.append_nil]
theorem one_flat (l : List RuleD) : One (l.flatMap RuleD.v) := by
  intro c hc
  obtain ⟨r, _, h⟩ := List.mem_flatMap.1 hc
  exact one_rule r c h
/-- The same rules, in whatever order. -/
def Same (rs rs' : List RuleD) : Prop := rs.length = rs'.length ∧ ∀ r, r ∈ rs ↔ r ∈ rs'
theorem Same.refl (rs : List RuleD) : Same rs rs := ⟨rfl, fun _ => Iff.rfl⟩
theorem Same.trans {a b c : List RuleD} (h : Same a b) (h' : Same b c) : Same a c := ⟨h.1.trans h'.1, fun r => (h.2 r).trans (h'.2 r)⟩
section
variable {P : Program} {ρ : Operand → Value} {w w0 : World} {M : List Nat} {L l1 l2 : List Item} {dst : Option Tmp} {ty : TypeId} {pos : String} {aft : Array Edge} {g : Option (Nat × Bool)} {x y z : Operand} {T T2 E I : TypeId} {v : Value} {k : IntKind}
  {d dE : TypeDesc} {sz bts b o : Nat} {zv : Value} {a : Option Addr} {cs C : List Value}
end
end Go.Kw
