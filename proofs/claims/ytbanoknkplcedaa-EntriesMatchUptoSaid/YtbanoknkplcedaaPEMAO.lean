/- What the law's proof leans on. No condition. -/
import Derived.Test.YtbanoknkplcedaaPEMAI
import Derived.Test.YtbanoknkplcedaaPEMAN
import Derived.MapKept
import Derived.WideMake
import Derived.Laws.Cover1
import Derived.Laws.Externs
import Derived.Lib.Bytealg
namespace Go.Kw
open Go.Lib
set_option linter.unusedVariables false
set_option linter.unusedSimpArgs false
abbrev sv (l : List UInt8) : Value := .string ⟨l.toArray⟩
abbrev iv (z : Int) : Value := .int .i64 z
section
variable {P : Program} {ρ : Operand → Value} {w w0 : World} {M : List Nat} {L l1 l2 : List Item} {dst : Option Tmp} {ty : TypeId} {pos : String} {aft : Array Edge} {g : Option (Nat × Bool)} {x y z : Operand} {T T2 E I K : TypeId} {v : Value} {k : IntKind}
  {d dE : TypeDesc} {sz bts b o : Nat} {zv : Value} {a : Option Addr} {cs C : List Value}
theorem r_makeFunc {fn : Fn} {capt : Array Operand} {vs : List Value} (hc : capt.toList.map ρ = vs) : (execOp ρ ⟨dst, .makeFunc fn #[] capt, ty, pos, aft, g⟩).run P w = .ok (.value (.func fn #[] vs.toArray)) w := by
  have hc' : capt.map ρ = vs.toArray := by
    apply Array.ext'
    simpa using hc
  simp [execOp, Instr.makeFunc, hc']
theorem r_callDyn {f : FuncId} {t : Tmp} {args : Array Operand} {tys : Array TypeId} {vs lb : List Value} (hf : FnOk P f) (ha : args.toList.map ρ = vs) (hρ : ρ (.tmp t) = .func (.func f) #[] lb.toArray) :
    (execOp ρ ⟨dst, .call { callee := .value (.tmp t), args := args, argTypes := tys }, ty, pos, aft, g⟩).run P w = .ok (.enter f (vs ++ lb).toArray) w := by
  obtain ⟨fn, h1, h2, h3⟩ := hf
  have ha' : args.map ρ = vs.toArray := by
    apply Array.ext'
    simpa using ha
  have h2' : ¬ fn.name = "runtime.NumGoroutine" := by intro h; simp [h] at h2
  have h3' : ¬ fn.body = none := by intro h; simp [h] at h3
  simp [execOp, resolve, hρ, Deferred.ofValue, invoke, callFunc, program, Sem.run, h1, h2', h3', ha']
theorem toList_b (l : List UInt8) : (⟨l.toArray⟩ : ByteArray).toList = l := by
  rw [ByteArray.toList_eq]
theorem less_tot : ∀ (a b : List UInt8), (Op.bytesLess a b || (a == b)) = !Op.bytesLess b a
  | [], [] => rfl
  | [], _ :: _ => rfl
  | _ :: _, [] => rfl
  | x :: a, y :: b => by
    have ih := less_tot a b
    simp only [Op.bytesLess, List.cons_beq_cons]
    rcases Nat.lt_trichotomy x.toNat y.toNat with h | h | h
    · have h1 : x < y := h
      have h2 : ¬ y < x := by intro h'; have : y.toNat < x.toNat := h'; omega
      have h3 : ¬ y = x := by intro e; subst e; omega
      simp [h1, h2, h3]
    · have e : x = y := UInt8.toNat_inj.1 h
      subst e
      have h2 : ¬ x < x := by intro h'; have : x.toNat < x.toNat := h'; omega
      simp [h2, ih]
    · have h1 : y < x := h
      have h2 : ¬ x < y := by intro h'; have : x.toNat < y.toNat := h'; omega
      have h3 : ¬ x = y := by intro e; subst e; omega
      simp [h1, h2, h3]
theorem r_leqStrL {a b : List UInt8} (hx : ρ x = .string ⟨a.toArray⟩) (hy : ρ y = .string ⟨b.toArray⟩) : (execOp ρ ⟨dst, .binOp .leq T x y T2, ty, pos, aft, g⟩).run P w = .ok (.value (.bool (decide (¬ Op.bytesLess b a = true)))) w := by
  have he : (eqGuard .leq T x y (.string ⟨a.toArray⟩) (.string ⟨b.toArray⟩)).run P w = .ok () w := by unfold eqGuard; simp
  have h := less_tot a b
  simp only [execOp, hx, hy, Sem.run_bind, he, Result.andThen_ok, binOp, Op.stringOp, toList_b, Sem.run_pure, h]
  cases Op.bytesLess b a <;> rfl
theorem r_geqStrL {a b : List UInt8} (hx : ρ x = .string ⟨a.toArray⟩) (hy : ρ y = .string ⟨b.toArray⟩) : (execOp ρ ⟨dst, .binOp .geq T x y T2, ty, pos, aft, g⟩).run P w = .ok (.value (.bool (decide (¬ Op.bytesLess a b = true)))) w := by
  have he : (eqGuard .geq T x y (.string ⟨a.toArray⟩) (.string ⟨b.toArray⟩)).run P w = .ok () w := by unfold eqGuard; simp
  simp only [execOp, hx, hy, Sem.run_bind, he, Result.andThen_ok, binOp, Op.stringOp, toList_b, Sem.run_pure]
  cases Op.bytesLess a b <;> rfl
end
theorem Ret.br {P : Program} {f : FuncId} {args : List Value} {w : World} {b : Bool} (h : Ret P f args w (fun v w' => v = .bool b ∧ St w [] w' [])) : Ret P f args w (fun v w' => (b = true ∧ v = .bool true ∧ St w [] w' []) ∨ (b = false ∧ v = .bool false ∧ St w [] w' [])) :=
  h.mono fun v w' h => by
    cases b with
    | true => exact .inl ⟨rfl, h⟩
    | false => exact .inr ⟨rfl, h⟩
end Go.Kw
