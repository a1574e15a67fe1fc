/- Rows of sums in a block: read, written, cleared; each one once. No condition. -/
import Derived.Test.YtfohfnpehfcaaaaSrt
namespace Go.Kw
open Go.Lib
set_option linter.unusedVariables false
set_option linter.unusedSimpArgs false
theorem splice32 {u : List UInt8} {D : List Value} (hu : u.length = 32) : ∀ {l : List (List UInt8)} {m : Nat}, S32 l → m < l.length → splice (l.flatten.map b8 ++ D) (m * 32) (u.map b8) = (l.set m u).flatten.map b8 ++ D
  | [], _, _, h => by simp at h
  | r :: l, 0, hs, h => by
    have h8 : (r.map b8).length = 32 := by rw [List.length_map]; exact hs r (by simp)
    have hu8 : (u.map b8).length = 32 := by rw [List.length_map, hu]
    simp only [splice, List.flatten_cons, List.map_append, Nat.zero_mul, List.take_zero, List.nil_append, Nat.zero_add, hu8, List.set_cons_zero, List.append_assoc]
    rw [← h8, List.drop_left]
  | r :: l, m + 1, hs, h => by
    have ih := splice32 (u := u) (D := D) hu (l := l) (m := m) (fun x hx => hs x (by simp [hx])) (by simpa using h)
    have h8 : (r.map b8).length = 32 := by rw [List.length_map]; exact hs r (by simp)
    have hu8 : (u.map b8).length = 32 := by rw [List.length_map, hu]
    simp only [splice, hu8] at ih
    simp only [splice, List.flatten_cons, List.map_append, hu8, List.set_cons_succ, List.append_assoc]
    have e1 : (m + 1) * 32 = (r.map b8).length + m * 32 := by rw [h8]; omega
    have e2 : (m + 1) * 32 + 32 = (r.map b8).length + (m * 32 + 32) := by rw [h8]; omega
    rw [e2, ← List.drop_drop, List.drop_left, e1, List.take_length_add_append, List.append_assoc, ih]
theorem S32.set {l : List (List UInt8)} (h : S32 l) {u : List UInt8} (hu : u.length = 32) (m : Nat) : S32 (l.set m u) := by
  intro s hs
  rcases List.mem_or_eq_of_mem_set hs with h' | rfl
  · exact h s h'
  · exact hu
section
variable {P : Program} {ρ : Operand → Value} {w w0 : World} {M : List Nat} {L l1 l2 : List Item} {dst : Option Tmp} {ty : TypeId} {pos : String} {aft : Array Edge} {g : Option (Nat × Bool)} {x y z : Operand} {T T2 E I K : TypeId} {v : Value} {k : IntKind}
  {d dE dK : TypeDesc} {sz bts b o : Nat} {zv : Value} {a : Option Addr} {cs C : List Value}
theorem r_ixQ {len cap m r : Nat} (h : P.underlying T = some (.slice E)) (hE : TI P E dE 32 bts zv) (hx : ρ x = .slice (some ⟨b, r * 32, none⟩) len cap) (hy : ρ y = .int k (m : Int)) (hm : m < len) :
    (execOp ρ ⟨dst, .indexAddr T x y, ty, pos, aft, g⟩).run P w = .ok (.value (pt b ((r + m) * 32))) w := by
  have h0 : (0 : Int) ≤ (m : Int) ∧ (m : Int) < (len : Int) := by omega
  have e : r * 32 + m * 32 = (r + m) * 32 := by omega
  simp [execOp, hx, hy, Instr.indexAt, asIntOf, run_underlying h, run_sizeOf hE, hm, add_lit, e]
theorem r_ixQ0 {len cap m : Nat} (h : P.underlying T = some (.slice E)) (hE : TI P E dE 32 bts zv) (hx : ρ x = .slice (some ⟨b, 0, none⟩) len cap) (hy : ρ y = .int k (m : Int)) (hm : m < len) :
    (execOp ρ ⟨dst, .indexAddr T x y, ty, pos, aft, g⟩).run P w = .ok (.value (pt b (m * 32))) w := by
  have h1 := r_ixQ (r := 0) (w := w) (dst := dst) (ty := ty) (pos := pos) (aft := aft) (g := g) h hE (by rw [hx]) hy hm
  rwa [Nat.zero_add] at h1
theorem r_loadQ {m : Nat} {l : List (List UInt8)} {D : List Value} {fr : Nat × Nat} (h : TI P T d 32 bts zv) (hd : aggD d = true) (hx : ρ x = pt b (m * 32)) (hb : w.heap[b]? = some (.cells (l.flatten.map b8 ++ D).toArray E fr)) (h32 : S32 l) (hm : m < l.length) :
    (execOp ρ ⟨dst, .load T x, ty, pos, aft, g⟩).run P w = .ok (.value (.agg ((gt l m).map b8).toArray)) w := by
  have hl := flat32_lenV h32
  have hA := at_part (off := m * 32) (n := 32) hb
  have e : ((l.flatten.map b8 ++ D).drop (m * 32)).take 32 = (gt l m).map b8 := by
    rw [List.drop_append_of_le_length (by omega), List.take_append_of_le_length (by rw [List.length_drop]; omega), flat32_getV h32 hm]
  rw [e] at hA
  exact r_loadA (cs := (gt l m).map b8) (by rw [List.length_map, h32.gt hm]; exact h) hd hx hA
theorem x_storeQ {m : Nat} {l : List (List UInt8)} {u : List UInt8} {D : List Value} (l1 : List Item) {l2 : List Item} (hS : St w0 M w (l1 ++ .blk b (cl (l.flatten.map b8 ++ D) E) :: l2)) (h : TI P T d 32 bts zv) (hx : ρ x = pt b (m * 32)) (hy : ρ y = .agg (u.map b8).toArray) (h32 : S32 l) (hu : u.length = 32) (hm : m < l.length) :
    ∃ w', (execOp ρ ⟨none, .store T x y, ty, pos, aft, g⟩).run P w = .ok .skip w' ∧ St w0 M w' (l1 ++ .blk b (cl ((l.set m u).flatten.map b8 ++ D) E) :: l2) :=
  x_store l1 hS h hx hy (cs := u.map b8) rfl (by rw [List.length_map, hu]) (one_b8 u) (by rw [List.length_append, flat32_lenV h32, List.length_map, hu]; omega) (splice32 hu h32 hm)
/-- What lies behind is cleared. -/
theorem x_clearQ {n c : Nat} {X Y : List Value} {tys : Array TypeId} (l1 : List Item) {l2 : List Item} (hS : St w0 M w (l1 ++ .blk b (cl (X ++ Y) E) :: l2)) (ht : tys[0]? = some T) (hT : P.underlying T = some (.slice K)) (hK : TI P K dK sz bts zv) (hz : One zv.cells.toList) (hzs : zv.cells.size = sz) (hx : ρ x = .slice (some ⟨b, o, none⟩) n c) (ho : X.length = o) (hfit : n * sz ≤ Y.length) (args : Array Operand) (ha : args = #[x]) :
    ∃ v w', (execOp ρ ⟨dst, .call { callee := .builtin .clear, args := args, argTypes := tys }, ty, pos, aft, g⟩).run P w = .ok (.value v) w' ∧ v = .tuple #[] ∧ ∃ D', D'.length = Y.length ∧ St w0 M w' (l1 ++ .blk b (cl (X ++ D') E) :: l2) := by
  subst ha
  obtain ⟨i, hi, hs1, hs2, hs3⟩ := hK.info
  have hbk := hS.heap (b := b) (o := cl (X ++ Y) E) (by simp)
  by_cases h0 : n = 0
  · subst h0
    refine ⟨.tuple #[], w, ?_, rfl, Y, rfl, hS⟩
    simp [execOp, resolve, invoke, builtin, Builtin.clear_, hx, ht, run_underlying hT]
  · have hsize : (Builtin.zeroCells zv.cells n).toList.length = n * sz := by simp [Builtin.zeroCells, hzs]
    have hone : One (Builtin.zeroCells zv.cells n).toList := by
      intro q hq
      simp only [Builtin.zeroCells, Array.toList_map, List.mem_map] at hq
      obtain ⟨j, hj, rfl⟩ := hq
      have hjs : j < n * zv.cells.size := by simpa using hj
      have hm : j % zv.cells.size < zv.cells.size := Nat.mod_lt _ (Nat.pos_of_ne_zero fun h => by rw [h] at hjs; omega)
      rw [getElem!_pos zv.cells _ hm]
      exact hz _ (by simp)
    have hst := run_storeCells_at P b o E (Builtin.zeroCells zv.cells n).toList 0 (X ++ Y).toArray w hbk (by simp only [List.size_toArray, List.length_append, hsize]; omega) hone
    simp only [Nat.add_zero] at hst
    have hst' : (storeCells ⟨b, o, none⟩ (Builtin.zeroCells zv.cells n).toList).run P w = .ok () (w.setRow b (splice (X ++ Y) o (Builtin.zeroCells zv.cells n).toList).toArray) := by
      simpa [splice] using hst
    refine ⟨.tuple #[], w.setRow b (splice (X ++ Y) o (Builtin.zeroCells zv.cells n).toList).toArray, ?_, rfl, (Builtin.zeroCells zv.cells n).toList ++ (X ++ Y).drop (o + (Builtin.zeroCells zv.cells n).toList.length), by rw [List.length_append, List.length_drop, hsize, List.length_append]; omega, ?_⟩
    · have hzr : (zeroValue K).run P w = .ok zv w := by simp [zeroValue, typeInfo, program, Sem.run, hi, hs3]
      simp only [execOp, resolve, hx, List.map_toArray, List.map_cons, List.map_nil, invoke, builtin, Sem.run_bind, Sem.run_pure, Result.andThen_ok, Builtin.clear_]
      rw [ht]
      simp [run_underlying hT, h0, hzr, hst']
    · have := put_at (C' := splice (X ++ Y) o (Builtin.zeroCells zv.cells n).toList) hS
      have e : splice (X ++ Y) o (Builtin.zeroCells zv.cells n).toList = X ++ ((Builtin.zeroCells zv.cells n).toList ++ (X ++ Y).drop (o + (Builtin.zeroCells zv.cells n).toList.length)) := by
        simp only [splice]
        rw [← ho, List.take_left]
      rw [← e]; exact this
theorem r_slQ {len cap m : Nat} (hT : P.underlying T = some (.slice E)) (hE : TI P E dE 32 bts zv) (hx : ρ x = .slice (some ⟨b, 0, none⟩) len cap) (hy : ρ y = vi m) (hm : m ≤ len) (hc : m < cap) (hlc : len ≤ cap) :
    (execOp ρ ⟨dst, .slice T x (some y) none none, ty, pos, aft, g⟩).run P w = .ok (.value (.slice (some ⟨b, m * 32, none⟩) (len - m) (cap - m))) w := by
  have h := r_sl_l (w := w) (dst := dst) (ty := ty) (pos := pos) (aft := aft) (g := g) hT hE hx hy hm
  have e : sub (some ⟨b, 0, none⟩) cap m 32 = some ⟨b, m * 32, none⟩ := by
    unfold sub
    rw [if_neg (by omega)]
    simp [add_lit]
  rwa [e] at h
end
theorem split32 (xs : List (List UInt8)) (D : List Value) (m : Nat) : xs.flatten.map b8 ++ D = (xs.take m).flatten.map b8 ++ ((xs.drop m).flatten.map b8 ++ D) := by
  rw [← List.append_assoc, ← List.map_append, ← List.flatten_append, List.take_append_drop]
theorem St.rowBlkQ {w0 w : World} {M : List Nat} {l1 l2 : List Item} {a : Option Addr} {n c sz : Nat} {E : TypeId} {xs : List Value} (hS : St w0 M w (l1 ++ .row (.slice a n c) E sz n xs :: l2)) (hn : 0 < n) :
    ∃ g D, a = some ⟨g, 0, none⟩ ∧ (xs ++ D).length = c * sz ∧ n ≤ c ∧ c ≤ 9223372036854775807 ∧ St w0 M w (l1 ++ .blk g (cl (xs ++ D) E) :: l2) := by
  obtain ⟨hl, hw⟩ := (hS.has (.row (.slice a n c) E sz n xs) (by simp)).1
  rcases hw with ⟨hv, h0⟩ | ⟨gq, cap, cur, hv, h1, h2, h3, h4, h5, h6⟩
  · omega
  simp only [Value.slice.injEq] at hv
  obtain ⟨ha, _, hcap⟩ := hv
  subst hcap
  obtain ⟨g, C, hga, hC, hCn, hcc, hS'⟩ := St.rowBlk hS hn
  have hg : g = gq := by rw [hga] at ha; simpa using ha
  subst hg
  have hb := hS'.heap (b := g) (o := cl C E) (by simp)
  rw [h2] at hb
  simp only [Option.some.injEq, Obj.cells.injEq] at hb
  refine ⟨g, C.drop (n * sz), hga, ?_, h3, h4, ?_⟩
  · rw [← hC, List.take_append_drop]
    have := congrArg Array.size hb.1
    rw [h5] at this
    simpa using this.symm
  · rw [← hC, List.take_append_drop]
    exact hS'
/-- Of neighbours that are alike, one. -/
def compTo (l : List (List UInt8)) : Nat → List (List UInt8)
  | 0 => []
  | k + 1 => if k ≠ 0 ∧ gt l k = gt l (k - 1) then compTo l k else compTo l k ++ [gt l k]
def compL (l : List (List UInt8)) : List (List UInt8) := compTo l l.length
theorem comp_small {l : List (List UInt8)} (h : l.length < 2) : compL l = l := by
  unfold compL
  rcases l with _ | ⟨x, _ | ⟨y, l⟩⟩
  · rfl
  · rfl
  · simp only [List.length_cons] at h; omega
theorem compTo_eq {l : List (List UInt8)} {k : Nat} (h0 : k ≠ 0) (h : gt l k = gt l (k - 1)) : compTo l (k + 1) = compTo l k := by rw [compTo, if_pos ⟨h0, h⟩]
theorem compTo_ne {l : List (List UInt8)} {k : Nat} (h : k = 0 ∨ ¬ gt l k = gt l (k - 1)) : compTo l (k + 1) = compTo l k ++ [gt l k] := by rw [compTo, if_neg (fun h' => h.elim h'.1 (fun h => h h'.2))]
theorem compTo_len (l : List (List UInt8)) : ∀ k, (compTo l k).length ≤ k
  | 0 => Nat.le_refl _
  | k + 1 => by
    have := compTo_len l k
    rw [compTo]
    split
    · omega
    · rw [List.length_append, List.length_singleton]; omega
theorem compTo_mem {l : List (List UInt8)} {x : List UInt8} : ∀ k, k ≤ l.length → (x ∈ compTo l k ↔ x ∈ l.take k)
  | 0, _ => by simp [compTo]
  | k + 1, h => by
    have ih := compTo_mem (l := l) (x := x) k (by omega)
    have htg := take_gt l k (show k < l.length by omega)
    rw [htg, List.mem_append, List.mem_singleton, ← ih]
    by_cases hc : k ≠ 0 ∧ gt l k = gt l (k - 1)
    · rw [compTo, if_pos hc, ih]
      refine ⟨.inl, fun h' => ?_⟩
      rcases h' with h' | h'
      · exact h'
      · rw [h', hc.2]
        have e : gt (l.take k) (k - 1) = gt l (k - 1) := gt_take _ _ _ (by omega)
        rw [← e]
        have h0 := hc.1
        exact gt_mem (l.take k) (k - 1) (by rw [List.length_take]; omega)
    · rw [compTo, if_neg hc, List.mem_append, List.mem_singleton]
theorem comp_step {l xs : List (List UInt8)} {m k : Nat} (hm : m < xs.length) (ht : xs.take m = compTo l k) (hk : k ≠ 0) (hne : ¬ gt l k = gt l (k - 1)) : (xs.set m (gt l k)).take (m + 1) = compTo l (k + 1) := by
  rw [compTo_ne (.inr hne), ← ht, List.take_succ_eq_append_getElem (by rw [List.length_set]; exact hm), List.getElem_set_self, List.take_set_of_le (Nat.le_refl _)]
theorem comp_keep {l xs : List (List UInt8)} {m j : Nat} {u : List UInt8} (h : ∀ i, j ≤ i → gt xs i = gt l i) (hm : m ≤ j) : ∀ i, j + 1 ≤ i → gt (xs.set m u) i = gt l i := fun i hi => by
  rw [gt_set, if_neg (by omega)]
  exact h i (by omega)
theorem sort_32 {l : List (List UInt8)} (h : S32 l) : S32 (sortL l) := fun s hs => h s ((List.mergeSort_perm l _).mem_iff.1 hs)
theorem compL_32 {l : List (List UInt8)} (h : S32 l) : S32 (compL l) := fun s hs => h s (by
  have := (compTo_mem (l := l) (x := s) l.length (Nat.le_refl _)).1 hs
  rwa [List.take_length] at this)
end Go.Kw
