/- What the law's proof leans on. No condition. -/
import Derived.Test.YtmonnmndphlkaaaGreatPWnAO
import Derived.Test.YtmonnmndphlkaaaGreatPWnAS
section
namespace Go.Kw
open Go.Sort Go.RowKit
set_option linter.unusedVariables false
set_option linter.unusedSimpArgs false
section
variable {α : Type} [Inhabited α]
theorem putRow_map (enc : α → Value) (w : World) (b o : Nat) (d : List α) : putRow enc w b o d.toArray = putRow id w b o (d.map enc).toArray := by
  unfold putRow
  congr 1
  funext c
  apply Array.ext_getElem?
  intro k
  simp only [putCells, Array.getElem?_mapIdx, List.size_toArray, List.length_map]
  cases hc : c[k]? with
  | none => rfl
  | some x =>
    simp only [Option.map_some]
    by_cases h : o ≤ k ∧ k < o + d.length
    · rw [if_pos h, if_pos h]
      have h1 : k - o < d.length := by omega
      congr 1
      simp [h1]
    · rw [if_neg h, if_neg h]
theorem holds_map {enc : α → Value} {w : World} {g : Nat} {d : List α} (h : Holds id w g 0 (d.map enc).toArray) : Holds enc w g 0 d.toArray := by
  intro j hj
  have hj' : j < d.length := by simpa using hj
  have := h j (by simpa using hj')
  refine ⟨?_, this.2⟩
  rw [this.1]
  simp [hj']
/-- Behind a sort of a row that the call owns. -/
theorem St.sorted1 {w : World} {g c n m : Nat} {E : TypeId} {os : Array Obj} {enc : α → Value} {l l' : List α} (hS : w.ownsRow 0 E 1 (.slice (some ⟨g, 0, none⟩) n c) n (l.map enc)) (hn : l'.length = n) :
    St w [g] (grow (putRow enc (Sort.ahead w m) g 0 l'.toArray) os) [.row (.slice (some ⟨g, 0, none⟩) n c) E 1 n (l'.map enc)] := by
  obtain ⟨hlen, hnil | ⟨g', cap, cur, hv, hbase, hb, h1, h2, h3, h4⟩⟩ := hS
  · exact absurd hnil.1 (by simp)
  · simp only [Value.slice.injEq, Option.some.injEq, Addr.mk.injEq, and_true] at hv
    obtain ⟨rfl, _, rfl⟩ := hv
    have hfl : (l'.map enc).length = n * 1 := by rw [List.length_map, hn, Nat.mul_one]
    rw [putRow_map]
    refine ⟨rfl, rfl, rfl, by simp, fun k hk hne => oldV _ hk (fun e => hne (by simp [e])), ?_, by simp [Item.id, Value.ownBlock]⟩
    intro x hx
    obtain rfl := List.mem_singleton.1 hx
    refine ⟨⟨hfl, .inr ⟨g, c, _, rfl, Nat.zero_le _, heapV _ hb, h1, h2, by simp [putCells, h3], ?_⟩⟩, fun k hk => .inr ?_⟩
    · have := takeV cur (l'.map enc).toArray (by rw [List.size_toArray, hfl, h3]; exact Nat.mul_le_mul_right _ h1)
      rw [List.size_toArray, hfl] at this
      exact this
    · simp only [Value.ownBlock, Option.some.injEq] at hk
      simp [hk]
/-- A sort's contract on a place, as one on a row that the call owns. -/
theorem sort_row {P : Program} {f : FuncId} {le : α → α → Bool} {enc : α → Value} {E : TypeId} (hnone : ∀ (p : Option Addr) (cap : Nat) (w : World), Calls P f #[.slice p 0 cap] w fun e w' => e = .returned (.tuple #[]) ∧ w' = w)
    (hsome : ∀ (blk cap : Nat) (l : List α) (w : World), Holds enc w blk 0 l.toArray → blk < w.heap.size → l.length < 4611686018427387904 → Calls P f #[.slice (some ⟨blk, 0, none⟩) l.length cap] w fun e w' => e = .returned (.tuple #[]) ∧ ∃ n os, w' = grow (putRow enc (Sort.ahead w n) blk 0 (l.mergeSort le).toArray) os)
    (l : List α) (a : Option Addr) (n c : Nat) (w : World) (hS : w.ownsRow 0 E 1 (.slice a n c) n (l.map enc)) (hl : l.length = n) (hn : n ≤ 4398046511104) :
    Ret P f [.slice a n c] w (fun v w' => v = .tuple #[] ∧ St w (Value.slice a n c).ownBlock.toList w' [.row (.slice a n c) E 1 n ((l.mergeSort le).map enc)]) := by
  by_cases h0 : n = 0
  · subst h0
    obtain rfl : l = [] := List.eq_nil_of_length_eq_zero hl
    refine Calls.mono (hnone a c w) ?_
    rintro e w' ⟨rfl, rfl⟩
    refine ⟨_, rfl, rfl, rfl, rfl, rfl, Nat.le_refl _, fun _ _ _ => rfl, ?_, by cases a <;> first | exact List.nodup_nil | simp [Item.id, Value.ownBlock]⟩
    intro x hx
    obtain rfl := List.mem_singleton.1 hx
    refine ⟨?_, fun k hk => .inr (by rw [hk]; simp)⟩
    have e : ([] : List α).mergeSort le = [] := by simp
    rw [e]
    exact hS
  · obtain ⟨hlen, ⟨_, h⟩ | ⟨g, cap, cur, hv, hbase, hb, h1, h2, h3, h4⟩⟩ := id hS
    · exact absurd h h0
    · simp only [Value.slice.injEq] at hv
      obtain ⟨rfl, _, rfl⟩ := hv
      have hH : Holds enc w g 0 l.toArray := holds_map (holdsV hb (by
        rw [List.size_toArray, hlen]
        exact h4))
      have hcon := hsome g c l w hH (Array.getElem?_eq_some_iff.1 hb).1 (by omega)
      rw [hl] at hcon
      refine Calls.mono hcon ?_
      rintro e w' ⟨rfl, m, os, rfl⟩
      exact ⟨_, rfl, rfl, St.sorted1 hS (by rw [List.length_mergeSort, hl])⟩
end
end Go.Kw
end
section
namespace Go.Kw
set_option linter.unusedVariables false
set_option linter.unusedSimpArgs false
theorem gtm {α : Type} [Inhabited α] {f : α → Value} {l : List α} {D : List Value} {m : Nat} (h : m < l.length) : (l.map f ++ D)[m]? = some (f (gt l m)) := by
  rw [List.getElem?_append_left (by simpa using h), gt_eq l m h]
  simp [h]
section
variable {P : Program} {ρ : Operand → Value} {w w0 : World} {M : List Nat} {L l1 l2 : List Item} {dst : Option Tmp} {ty : TypeId} {pos : String} {aft : Array Edge} {g : Option (Nat × Bool)} {x y z : Operand} {T T2 E I K : TypeId} {v : Value} {k : IntKind}
  {d dE dK : TypeDesc} {sz bts b o : Nat} {zv : Value} {a : Option Addr} {cs C : List Value}
theorem r_ixW {len cap m r : Nat} (h : P.underlying T = some (.slice E)) (hE : TI P E dE 1 bts zv) (hx : ρ x = .slice (some ⟨b, r, none⟩) len cap) (hy : ρ y = .int k (m : Int)) (hm : m < len) :
    (execOp ρ ⟨dst, .indexAddr T x y, ty, pos, aft, g⟩).run P w = .ok (.value (pt b (r + m))) w := by
  have h0 : (0 : Int) ≤ (m : Int) ∧ (m : Int) < (len : Int) := by omega
  simp [execOp, hx, hy, Instr.indexAt, asIntOf, run_underlying h, run_sizeOf hE, hm, add_lit]
theorem r_ixW0 {len cap m : Nat} (h : P.underlying T = some (.slice E)) (hE : TI P E dE 1 bts zv) (hx : ρ x = .slice (some ⟨b, 0, none⟩) len cap) (hy : ρ y = .int k (m : Int)) (hm : m < len) :
    (execOp ρ ⟨dst, .indexAddr T x y, ty, pos, aft, g⟩).run P w = .ok (.value (pt b m)) w := by
  have h1 := r_ixW (r := 0) (w := w) (dst := dst) (ty := ty) (pos := pos) (aft := aft) (g := g) h hE (by rw [hx]) hy hm
  rwa [Nat.zero_add] at h1
theorem r_loadW {α : Type} [Inhabited α] {f : α → Value} {m : Nat} {l : List α} {D : List Value} {fr : Nat × Nat} (h : P.underlying T = some d) (hd : aggD d = false) (hx : ρ x = pt b m) (hb : w.heap[b]? = some (.cells (l.map f ++ D).toArray E fr)) (hm : m < l.length) :
    (execOp ρ ⟨dst, .load T x, ty, pos, aft, g⟩).run P w = .ok (.value (f (gt l m))) w :=
  r_loadAt1 (off := 0) (j := m) h hd hx (at_all hb) (gtm hm) (Nat.zero_add m)
theorem x_storeW1 {α : Type} {f : α → Value} {m : Nat} {l : List α} {u : α} {D : List Value} (l1 : List Item) {l2 : List Item} (hS : St w0 M w (l1 ++ .blk b (cl (l.map f ++ D) E) :: l2)) (h : TI P T d 1 bts zv) (hx : ρ x = pt b m) (hy : ρ y = f u) (hv : (f u).oneCell' = true) (hm : m < l.length) :
    ∃ w', (execOp ρ ⟨none, .store T x y, ty, pos, aft, g⟩).run P w = .ok .skip w' ∧ St w0 M w' (l1 ++ .blk b (cl ((l.set m u).map f ++ D) E) :: l2) := by
  have := x_store1 (ty := ty) (pos := pos) (aft := aft) (g := g) l1 hS h hx hy hv (by rw [List.length_append, List.length_map]; omega)
  rwa [List.set_append_left _ _ (by simpa using hm), ← List.map_set] at this
/-- What lies behind is cleared. -/
theorem x_clearW {n c : Nat} {X Y : List Value} {tys : Array TypeId} (l1 : List Item) {l2 : List Item} (hS : St w0 M w (l1 ++ .blk b (cl (X ++ Y) E) :: l2)) (ht : tys[0]? = some T) (hT : P.underlying T = some (.slice K)) (hK : TI P K dK sz bts zv) (hz : One zv.cells.toList) (hzs : zv.cells.size = sz) (hx : ρ x = .slice (some ⟨b, o, none⟩) n c) (ho : X.length = o) (hfit : n * sz ≤ Y.length) (args : Array Operand) (ha : args = #[x]) :
    ∃ v w', (execOp ρ ⟨dst, .call { callee := .builtin .clear, args := args, argTypes := tys }, ty, pos, aft, g⟩).run P w = .ok (.value v) w' ∧ v = .tuple #[] ∧ ∃ D', D'.length = Y.length ∧ St w0 M w' (l1 ++ .blk b (cl (X ++ D') E) :: l2) := by
  subst ha
  obtain ⟨i, hi, hs1, hs2, hs3⟩ := hK.info
  have hbk := hS.heap (b := b) (o := cl (X ++ Y) E) (by simp)
  by_cases h0 : n = 0
  · subst h0
    refine ⟨.tuple #[], w, ?_, rfl, Y, rfl, hS⟩
    simp [execOp, resolve, invoke, builtin, Builtin.clear_, hx, ht, run_underlying hT]
  · have hsize : (Builtin.zeroCells zv.cells n).toList.length = n * sz := by simp [Builtin.zeroCells, hzs]
    have hone : One (Builtin.zeroCells zv.cells n).toList := by
      intro q hq
      simp only [Builtin.zeroCells, Array.toList_map, List.mem_map] at hq
      obtain ⟨j, hj, rfl⟩ := hq
      have hjs : j < n * zv.cells.size := by simpa using hj
      have hm : j % zv.cells.size < zv.cells.size := Nat.mod_lt _ (Nat.pos_of_ne_zero fun h => by rw [h] at hjs; omega)
      rw [getElem!_pos zv.cells _ hm]
      exact hz _ (by simp)
    have hst := run_storeCells_at P b o E (Builtin.zeroCells zv.cells n).toList 0 (X ++ Y).toArray w hbk (by simp only [List.size_toArray, List.length_append, hsize]; omega) hone
    simp only [Nat.add_zero] at hst
    have hst' : (storeCells ⟨b, o, none⟩ (Builtin.zeroCells zv.cells n).toList).run P w = .ok () (w.setRow b (splice (X ++ Y) o (Builtin.zeroCells zv.cells n).toList).toArray) := by
      simpa [splice] using hst
    refine ⟨.tuple #[], w.setRow b (splice (X ++ Y) o (Builtin.zeroCells zv.cells n).toList).toArray, ?_, rfl, (Builtin.zeroCells zv.cells n).toList ++ (X ++ Y).drop (o + (Builtin.zeroCells zv.cells n).toList.length), by rw [List.length_append, List.length_drop, hsize, List.length_append]; omega, ?_⟩
    · have hzr : (zeroValue K).run P w = .ok zv w := by simp [zeroValue, typeInfo, program, Sem.run, hi, hs3]
      simp only [execOp, resolve, hx, List.map_toArray, List.map_cons, List.map_nil, invoke, builtin, Sem.run_bind, Sem.run_pure, Result.andThen_ok, Builtin.clear_]
      rw [ht]
      simp [run_underlying hT, h0, hzr, hst']
    · have := put_at (C' := splice (X ++ Y) o (Builtin.zeroCells zv.cells n).toList) hS
      have e : splice (X ++ Y) o (Builtin.zeroCells zv.cells n).toList = X ++ ((Builtin.zeroCells zv.cells n).toList ++ (X ++ Y).drop (o + (Builtin.zeroCells zv.cells n).toList.length)) := by
        simp only [splice]
        rw [← ho, List.take_left]
      rw [← e]; exact this
theorem r_slW {len cap m : Nat} (hT : P.underlying T = some (.slice E)) (hE : TI P E dE 1 bts zv) (hx : ρ x = .slice (some ⟨b, 0, none⟩) len cap) (hy : ρ y = vi m) (hm : m ≤ len) (hc : m < cap) (hlc : len ≤ cap) :
    (execOp ρ ⟨dst, .slice T x (some y) none none, ty, pos, aft, g⟩).run P w = .ok (.value (.slice (some ⟨b, m, none⟩) (len - m) (cap - m))) w := by
  have h := r_sl_l (w := w) (dst := dst) (ty := ty) (pos := pos) (aft := aft) (g := g) hT hE hx hy hm
  have e : sub (some ⟨b, 0, none⟩) cap m 1 = some ⟨b, m, none⟩ := by
    unfold sub
    rw [if_neg (by omega)]
    simp [add_lit]
  rwa [e] at h
end
theorem splitW {α : Type} {f : α → Value} (xs : List α) (D : List Value) (m : Nat) : xs.map f ++ D = (xs.take m).map f ++ ((xs.drop m).map f ++ D) := by
  rw [← List.append_assoc, ← List.map_append, List.take_append_drop]
theorem St.rowBlkW {w0 w : World} {M : List Nat} {l1 l2 : List Item} {a : Option Addr} {n c sz : Nat} {E : TypeId} {xs : List Value} (hS : St w0 M w (l1 ++ .row (.slice a n c) E sz n xs :: l2)) (hn : 0 < n) :
    ∃ g D, a = some ⟨g, 0, none⟩ ∧ (xs ++ D).length = c * sz ∧ n ≤ c ∧ c ≤ 9223372036854775807 ∧ St w0 M w (l1 ++ .blk g (cl (xs ++ D) E) :: l2) := by
  obtain ⟨hl, hw⟩ := (hS.has (.row (.slice a n c) E sz n xs) (by simp)).1
  rcases hw with ⟨hv, h0⟩ | ⟨gq, cap, cur, hv, h1, h2, h3, h4, h5, h6⟩
  · omega
  simp only [Value.slice.injEq] at hv
  obtain ⟨ha, _, hcap⟩ := hv
  subst hcap
  obtain ⟨g, C, hga, hC, hCn, hcc, hS'⟩ := St.rowBlk hS hn
  have hg : g = gq := by rw [hga] at ha; simpa using ha
  subst hg
  have hb := hS'.heap (b := g) (o := cl C E) (by simp)
  rw [h2] at hb
  simp only [Option.some.injEq, Obj.cells.injEq] at hb
  refine ⟨g, C.drop (n * sz), hga, ?_, h3, h4, ?_⟩
  · rw [← hC, List.take_append_drop]
    have := congrArg Array.size hb.1
    rw [h5] at this
    simpa using this.symm
  · rw [← hC, List.take_append_drop]
    exact hS'
end Go.Kw
end
