/- What the law's proof leans on. No condition. -/
import Derived.Test.YtmonnmndphlkaaaGreatPWnBF
import Derived.Test.YtmonnmndphlkaaaGreatPWnAK
import Derived.Laws.StructEq
namespace Go.Kw
set_option linter.unusedVariables false
set_option linter.unusedSimpArgs false
section
variable {P : Program} {ρ : Operand → Value} {w w0 : World} {M : List Nat} {L l1 l2 : List Item} {dst : Option Tmp} {ty : TypeId} {pos : String} {aft : Array Edge} {g : Option (Nat × Bool)} {x y z : Operand} {T T2 E I : TypeId} {v : Value} {k : IntKind}
  {d dE : TypeDesc} {sz bts b o : Nat} {zv : Value} {a : Option Addr} {cs C : List Value}
/-! ### Structures, field by field -/
def EqAtN (P : Program) (n : Nat) (T : TypeId) (u v : Value) (p : Prop) [Decidable p] : Prop := ∀ d w, (Op.equalIn (d + n) T u v).run P w = .ok (decide p) w
def EqFsN (P : Program) (n : Nat) (xs ys : Array Value) (fs : List Field) (p : Prop) [Decidable p] : Prop := ∀ d w, (Op.eqFields (d + n) xs ys fs).run P w = .ok (decide p) w
theorem eqFs_nil {n : Nat} {xs ys : Array Value} : EqFsN P n xs ys [] True := fun d w => by simp [Op.eqFields]
theorem eqFs_cons {n : Nat} {xs ys : Array Value} {f : Field} {fs : List Field} {p q : Prop} [Decidable p] [Decidable q] (u v : Value) (hn : f.name ≠ "_") (hu : ∀ w, (part f.type xs f.offset).run P w = .ok u w) (hv : ∀ w, (part f.type ys f.offset).run P w = .ok v w)
    (he : EqAtN P n f.type u v p) (hr : EqFsN P n xs ys fs q) : EqFsN P n xs ys (f :: fs) (p ∧ q) := fun d w => by
  simp only [Op.eqFields, if_pos hn, Sem.run_bind, hu w, hv w, Result.andThen_ok, he d w]
  by_cases hp : p
  · rw [decide_eq_true hp]
    simp only [Bool.not_true, Bool.false_eq_true, if_false]
    rw [hr d w]
    congr 1
    exact decide_eq_decide.2 ⟨fun h => ⟨hp, h⟩, fun h => h.2⟩
  · rw [decide_eq_false hp]
    simp only [Bool.not_false, if_true, Sem.run_pure]
    congr 1
    exact (decide_eq_false fun h => hp h.1).symm
theorem eqAt_struct {xs ys : Array Value} {fs : List Field} {p : Prop} [Decidable p] (hT : P.underlying T = some (.struct fs.toArray)) (hp : P.stoodInHeld T = false) (h : EqFsN P 99 xs ys fs p) : EqIs P T (.agg xs) (.agg ys) p := fun d w => by
  have hf : P.fieldsOf T = fs.toArray := by unfold Program.fieldsOf; rw [hT]
  rw [show d + 100 = (d + 99) + 1 from rfl, run_equalIn_agg w (d + 99) T xs ys (by rw [hf]; exact hT) hp, hf]
  exact h d w
theorem eqAt_int {n : Nat} {k k' : IntKind} {u v : Int} (h : P.underlying T = some (.int k')) : EqAtN P (n + 1) T (.int k u) (.int k v) (u = v) := fun d w => by
  rw [show d + (n + 1) = (d + n) + 1 from rfl, run_equalIn_int w (d + n) T k k' u v h]
  rfl
/-! ### Heads -/
/-- The cells of a head. -/
def headV (ct tm : Int) (la ro : List UInt8) : List Value := [Value.int .i64 ct, Value.int .i64 tm] ++ (la.map b8 ++ ro.map b8)
@[simp] theorem headV_len {ct tm : Int} {la ro : List UInt8} (hla : la.length = 32) (hro : ro.length = 32) : (headV ct tm la ro).length = 66 := by simp [headV, hla, hro]
theorem run_part1 (h : P.underlying T = some d) (hd : aggD d = false) (hv : cs[o]? = some v) : (part T cs.toArray o).run P w = .ok v w := by
  simp [part, run_isAgg h, hd, hv]
end
end Go.Kw
