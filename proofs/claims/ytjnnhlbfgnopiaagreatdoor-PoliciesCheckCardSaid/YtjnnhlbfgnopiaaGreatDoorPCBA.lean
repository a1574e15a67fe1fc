/- What the law's proof leans on. No condition. -/
import Derived.Test.YtjnnhlbfgnopiaaGreatDoorPCAT
import Derived.Test.YtjnnhlbfgnopiaaGreatDoorPCAZ
namespace Go.Kw
set_option linter.unusedVariables false
set_option linter.unusedSimpArgs false
section
variable {P : Program} {ρ : Operand → Value} {w w0 : World} {M : List Nat} {L l1 l2 : List Item} {dst : Option Tmp} {ty : TypeId} {pos : String} {aft : Array Edge} {g : Option (Nat × Bool)} {x y z : Operand} {T T2 E I K : TypeId} {v : Value} {k : IntKind}
  {d dE dK : TypeDesc} {sz bts b o : Nat} {zv : Value} {a : Option Addr} {cs C : List Value}
/-- What lies behind is cleared. -/
theorem x_clearW {n c : Nat} {X Y : List Value} {tys : Array TypeId} (l1 : List Item) {l2 : List Item} (hS : St w0 M w (l1 ++ .blk b (cl (X ++ Y) E) :: l2)) (ht : tys[0]? = some T) (hT : P.underlying T = some (.slice K)) (hK : TI P K dK sz bts zv) (hz : One zv.cells.toList) (hzs : zv.cells.size = sz) (hx : ρ x = .slice (some ⟨b, o, none⟩) n c) (ho : X.length = o) (hfit : n * sz ≤ Y.length) (args : Array Operand) (ha : args = #[x]) :
    ∃ v w', (execOp ρ ⟨dst, .call { callee := .builtin .clear, args := args, argTypes := tys }, ty, pos, aft, g⟩).run P w = .ok (.value v) w' ∧ v = .tuple #[] ∧ ∃ D', D'.length = Y.length ∧ St w0 M w' (l1 ++ .blk b (cl (X ++ D') E) :: l2) := by
  subst ha
  obtain ⟨i, hi, hs1, hs2, hs3⟩ := hK.info
  have hbk := hS.heap (b := b) (o := cl (X ++ Y) E) (by simp)
  by_cases h0 : n = 0
  · subst h0
    refine ⟨.tuple #[], w, ?_, rfl, Y, rfl, hS⟩
    simp [execOp, resolve, invoke, builtin, Builtin.clear_, hx, ht, run_underlying hT]
  · have hsize : (Builtin.zeroCells zv.cells n).toList.length = n * sz := by simp [Builtin.zeroCells, hzs]
    have hone : One (Builtin.zeroCells zv.cells n).toList := by
      intro q hq
      simp only [Builtin.zeroCells, Array.toList_map, List.mem_map] at hq
      obtain ⟨j, hj, rfl⟩ := hq
      have hjs : j < n * zv.cells.size := by simpa using hj
      have hm : j % zv.cells.size < zv.cells.size := Nat.mod_lt _ (Nat.pos_of_ne_zero fun h => by rw [h] at hjs; omega)
      rw [getElem!_pos zv.cells _ hm]
      exact hz _ (by simp)
    have hst := run_storeCells_at P b o E (Builtin.zeroCells zv.cells n).toList 0 (X ++ Y).toArray w hbk (by simp only [List.size_toArray, List.length_append, hsize]; omega) hone
    simp only [Nat.add_zero] at hst
    have hst' : (storeCells ⟨b, o, none⟩ (Builtin.zeroCells zv.cells n).toList).run P w = .ok () (w.setRow b (splice (X ++ Y) o (Builtin.zeroCells zv.cells n).toList).toArray) := by
      simpa [splice] using hst
    refine ⟨.tuple #[], w.setRow b (splice (X ++ Y) o (Builtin.zeroCells zv.cells n).toList).toArray, ?_, rfl, (Builtin.zeroCells zv.cells n).toList ++ (X ++ Y).drop (o + (Builtin.zeroCells zv.cells n).toList.length), by rw [List.length_append, List.length_drop, hsize, List.length_append]; omega, ?_⟩
    · have hzr : (zeroValue K).run P w = .ok zv w := by simp [zeroValue, typeInfo, program, Sem.run, hi, hs3]
      simp only [execOp, resolve, hx, List.map_toArray, List.map_cons, List.map_nil, invoke, builtin, Sem.run_bind, Sem.run_pure, Result.andThen_ok, Builtin.clear_]
      rw [ht]
      simp [run_underlying hT, h0, hzr, hst']
    · have := put_at (C' := splice (X ++ Y) o (Builtin.zeroCells zv.cells n).toList) hS
      have e : splice (X ++ Y) o (Builtin.zeroCells zv.cells n).toList = X ++ ((Builtin.zeroCells zv.cells n).toList ++ (X ++ Y).drop (o + (Builtin.zeroCells zv.cells n).toList.length)) := by
        simp only [splice]
        rw [← ho, List.take_left]
      rw [← e]; exact this
end
end Go.Kw
