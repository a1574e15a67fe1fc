/- What the law's proof leans on. No condition. -/
import Derived.Test.YtfohfnpehfcaaaaPMcAG
import Derived.Test.YtfohfnpehfcaaaaPMcAI
import Derived.Test.YtfohfnpehfcaaaaPMcAN
import Derived.MapKept
import Derived.WideMake
import Derived.Laws.Cover1
import Derived.Laws.Externs
import Derived.Lib.Bytealg
namespace Go.Kw
open Go.Lib
set_option linter.unusedVariables false
set_option linter.unusedSimpArgs false
def entsAt {α : Type} (f : α → Value) : Nat → List α → List MapEntry
  | _, [] => []
  | i, k :: ks => ⟨f k, .bool true, i⟩ :: entsAt f (i + 1) ks
/-- A map that holds true for each of these keys. -/
def ents {α : Type} (f : α → Value) (ks : List α) : Obj := .map (entsAt f 0 ks).toArray ks.length
section
variable {P : Program} {ρ : Operand → Value} {w w0 : World} {M : List Nat} {L l1 l2 : List Item} {dst : Option Tmp} {ty : TypeId} {pos : String} {aft : Array Edge} {g : Option (Nat × Bool)} {x y z : Operand} {T T2 E I K : TypeId} {v : Value} {k : IntKind}
  {d dE : TypeDesc} {sz bts b o : Nat} {zv : Value} {a : Option Addr} {cs C : List Value}
theorem run_zeroV (h : TI P T d sz bts zv) : (zeroValue T).run P w = .ok zv w := by
  obtain ⟨i, hi, _, _, hz⟩ := h.info
  simp [zeroValue, typeInfo, program, Sem.run, hi, hz]
theorem x_makeMap {α : Type} (f : α → Value) (hS : St w0 M w L) : ∃ v w', (execOp ρ ⟨dst, .makeMap T none, ty, pos, aft, g⟩).run P w = .ok (.value v) w' ∧ ∃ b, v = .map (some b) ∧ St w0 M w' (.blk b (ents f []) :: L) := by
  have h := run_makeMap_plain (P := P) w T
  exact ⟨.map (some w.heap.size), w.alloc (ents f []), by simp [execOp, h]; rfl, _, rfl, hS.alloc _⟩
theorem r_makeFunc {fn : Fn} {capt : Array Operand} {vs : List Value} (hc : capt.toList.map ρ = vs) : (execOp ρ ⟨dst, .makeFunc fn #[] capt, ty, pos, aft, g⟩).run P w = .ok (.value (.func fn #[] vs.toArray)) w := by
  have hc' : capt.map ρ = vs.toArray := by
    apply Array.ext'
    simpa using hc
  simp [execOp, Instr.makeFunc, hc']
theorem r_callDyn {f : FuncId} {t : Tmp} {args : Array Operand} {tys : Array TypeId} {vs lb : List Value} (hf : FnOk P f) (ha : args.toList.map ρ = vs) (hρ : ρ (.tmp t) = .func (.func f) #[] lb.toArray) :
    (execOp ρ ⟨dst, .call { callee := .value (.tmp t), args := args, argTypes := tys }, ty, pos, aft, g⟩).run P w = .ok (.enter f (vs ++ lb).toArray) w := by
  obtain ⟨fn, h1, h2, h3⟩ := hf
  have ha' : args.map ρ = vs.toArray := by
    apply Array.ext'
    simpa using ha
  have h2' : ¬ fn.name = "runtime.NumGoroutine" := by intro h; simp [h] at h2
  have h3' : ¬ fn.body = none := by intro h; simp [h] at h3
  simp [execOp, resolve, hρ, Deferred.ofValue, invoke, callFunc, program, Sem.run, h1, h2', h3', ha']
end
theorem Ret.br {P : Program} {f : FuncId} {args : List Value} {w : World} {b : Bool} (h : Ret P f args w (fun v w' => v = .bool b ∧ St w [] w' [])) : Ret P f args w (fun v w' => (b = true ∧ v = .bool true ∧ St w [] w' []) ∨ (b = false ∧ v = .bool false ∧ St w [] w' [])) :=
  h.mono fun v w' h => by
    cases b with
    | true => exact .inl ⟨rfl, h⟩
    | false => exact .inr ⟨rfl, h⟩
end Go.Kw
