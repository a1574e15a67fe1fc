/- What the law's proof leans on. No condition. -/
import Derived.Test.YtjnnhlbfgnopiaaGreatDoorPCAB
import Derived.Laws.IdiomCopy
section
namespace Go.Kw
set_option linter.unusedVariables false
set_option linter.unusedSimpArgs false

section
variable {P : Program} {ops : Array Oper} {Q : Exit → Act → World → Prop} {n : Nat} {e : Env} {w w' : World} {rest : List Oper} {dst : Option Tmp} {op : Op} {ty : TypeId} {pos : String} {aft : Array Edge} {g : Option (Nat × Bool)} {v : Value}

theorem wl_exv {R : Value → World → Prop} (hr : ∃ v w', (execOp (ev n e) ⟨dst, op, ty, pos, aft, g⟩).run P w = .ok (.value v) w' ∧ R v w') (hg : wantE ops n e g = true)
    (h : ∀ v w', R v w' → WL P ops Q rest (act n (putE dst v e)) w') : WL P ops Q (⟨dst, op, ty, pos, aft, g⟩ :: rest) (act n e) w := by
  obtain ⟨v, w', hr, hR⟩ := hr
  exact wl_val hr hg (h v w' hR)

theorem wl_exs {R : World → Prop} (hr : ∃ w', (execOp (ev n e) ⟨none, op, ty, pos, aft, g⟩).run P w = .ok .skip w' ∧ R w') (hg : wantE ops n e g = true)
    (h : ∀ w', R w' → WL P ops Q rest (act n e) w') : WL P ops Q (⟨none, op, ty, pos, aft, g⟩ :: rest) (act n e) w := by
  obtain ⟨w', hr, hR⟩ := hr
  exact wl_skip hr hg (h w' hR)

/-- A test, parted. -/
theorem wl_dec {p : Prop} [Decidable p] (hr : (execOp (ev n e) ⟨dst, op, ty, pos, aft, g⟩).run P w = .ok (.value (.bool (decide p))) w) (hg : wantE ops n e g = true)
    (h1 : p → WL P ops Q rest (act n (putE dst (.bool true) e)) w) (h2 : ¬ p → WL P ops Q rest (act n (putE dst (.bool false) e)) w) : WL P ops Q (⟨dst, op, ty, pos, aft, g⟩ :: rest) (act n e) w := by
  by_cases hp : p
  · exact wl_val (by rw [hr, decide_eq_true hp]) hg (h1 hp)
  · exact wl_val (by rw [hr, decide_eq_false hp]) hg (h2 hp)
theorem wl_dec_t {p : Prop} [Decidable p] (hr : (execOp (ev n e) ⟨dst, op, ty, pos, aft, g⟩).run P w = .ok (.value (.bool (decide p))) w) (hg : wantE ops n e g = true) (hp : p)
    (h1 : WL P ops Q rest (act n (putE dst (.bool true) e)) w) : WL P ops Q (⟨dst, op, ty, pos, aft, g⟩ :: rest) (act n e) w :=
  wl_val (by rw [hr, decide_eq_true hp]) hg h1
theorem wl_dec_f {p : Prop} [Decidable p] (hr : (execOp (ev n e) ⟨dst, op, ty, pos, aft, g⟩).run P w = .ok (.value (.bool (decide p))) w) (hg : wantE ops n e g = true) (hp : ¬ p)
    (h1 : WL P ops Q rest (act n (putE dst (.bool false) e)) w) : WL P ops Q (⟨dst, op, ty, pos, aft, g⟩ :: rest) (act n e) w :=
  wl_val (by rw [hr, decide_eq_false hp]) hg h1
end

/-- A function with a body. -/
def FnOk (P : Program) (f : FuncId) : Prop := ∃ fn, P.funcs[f]? = some fn ∧ (fn.name == "runtime.NumGoroutine") = false ∧ fn.body.isNone = false

section
variable {P : Program} {ρ : Operand → Value} {w w0 : World} {M : List Nat} {L l1 l2 : List Item} {dst : Option Tmp} {ty : TypeId} {pos : String} {aft : Array Edge} {g : Option (Nat × Bool)} {x y z : Operand} {T T2 E : TypeId} {v : Value} {k : IntKind}
  {d dE : TypeDesc} {sz bts b o : Nat} {zv : Value} {a : Option Addr} {cs C : List Value}

theorem r_call {f : FuncId} {args : Array Operand} {tys : Array TypeId} {vs : List Value} (hf : FnOk P f) (ha : args.toList.map ρ = vs) (hρ : ρ (.func f) = .func (.func f) #[] #[]) :
    (execOp ρ ⟨dst, .call { callee := .value (.func f), args := args, argTypes := tys }, ty, pos, aft, g⟩).run P w = .ok (.enter f vs.toArray) w := by
  obtain ⟨fn, h1, h2, h3⟩ := hf
  have ha' : args.map ρ = vs.toArray := by
    apply Array.ext'
    simpa using ha
  have h2' : ¬ fn.name = "runtime.NumGoroutine" := by intro h; simp [h] at h2
  have h3' : ¬ fn.body = none := by intro h; simp [h] at h3
  simp [execOp, resolve, hρ, Deferred.ofValue, invoke, callFunc, program, Sem.run, h1, h2', h3', ha']

theorem run_isAgg (h : P.underlying T = some d) : (isAgg T).run P w = .ok (aggD d) w := by
  unfold isAgg
  rw [Sem.run_bind, run_underlying h w]
  cases d <;> simp [aggD]

theorem run_sizeOf (h : TI P T d sz bts zv) : (sizeOf T).run P w = .ok sz w := by
  obtain ⟨i, hi, h1, h2, h3⟩ := h.info
  simp [sizeOf, typeInfo, program, Sem.run, hi, h1]

theorem run_loadVar_at (h : TI P T d cs.length bts zv) (hd : aggD d = true) (hc : At w b o cs) : (loadVar T ⟨b, o, none⟩).run P w = .ok (.agg cs.toArray) w := by
  have hl := run_loadCells_list (P := P) w ⟨b, o, none⟩ cs (fun j v hv => by rw [add_lit]; exact hc j v hv)
  simp [loadVar, Sem.run_bind, run_isAgg h.und, run_sizeOf h, hd, hl]

theorem run_loadVar_1 (h : P.underlying T = some d) (hd : aggD d = false) (hc : w.cell? ⟨b, o, none⟩ = some v) : (loadVar T ⟨b, o, none⟩).run P w = .ok v w := by
  simp [loadVar, Sem.run_bind, run_isAgg h, hd, hc]

theorem r_load1 (h : P.underlying T = some d) (hd : aggD d = false) (hx : ρ x = pt b o) (hc : w.cell? ⟨b, o, none⟩ = some v) : (execOp ρ ⟨dst, .load T x, ty, pos, aft, g⟩).run P w = .ok (.value v) w := by
  simp [execOp, hx, Instr.loadAt, Instr.sureAddr, run_loadVar_1 h hd hc]
/-- .. from a block of which all is known. -/
theorem r_loadB1 {fr : Nat × Nat} (h : P.underlying T = some d) (hd : aggD d = false) (hx : ρ x = pt b o) (hb : w.heap[b]? = some (.cells C.toArray E fr)) (hv : C[o]? = some v) : (execOp ρ ⟨dst, .load T x, ty, pos, aft, g⟩).run P w = .ok (.value v) w :=
  r_load1 h hd hx (by rw [cell_of_row w b o C.toArray E fr hb]; simpa using hv)
theorem r_loadA (h : TI P T d cs.length bts zv) (hd : aggD d = true) (hx : ρ x = pt b o) (hc : At w b o cs) : (execOp ρ ⟨dst, .load T x, ty, pos, aft, g⟩).run P w = .ok (.value (.agg cs.toArray)) w := by
  simp [execOp, hx, Instr.loadAt, Instr.sureAddr, run_loadVar_at h hd hc]
/-- The whole of a block. -/
theorem r_loadB {fr : Nat × Nat} (h : TI P T d sz bts zv) (hd : aggD d = true) (hx : ρ x = pt b 0) (hb : w.heap[b]? = some (.cells C.toArray E fr)) (hl : C.length = sz) : (execOp ρ ⟨dst, .load T x, ty, pos, aft, g⟩).run P w = .ok (.value (.agg C.toArray)) w := by
  subst hl
  exact r_loadA h hd hx (at_all hb)
/-- A part of a block. -/
theorem r_loadBP {fr : Nat × Nat} (h : TI P T d sz bts zv) (hd : aggD d = true) (hx : ρ x = pt b o) (hb : w.heap[b]? = some (.cells C.toArray E fr)) (hl : o + sz ≤ C.length) : (execOp ρ ⟨dst, .load T x, ty, pos, aft, g⟩).run P w = .ok (.value (.agg ((C.drop o).take sz).toArray)) w := by
  have e : ((C.drop o).take sz).length = sz := by simp; omega
  exact r_loadA (by rw [e]; exact h) hd hx (at_part hb)

theorem Row.some_of (h : Row w a cs) (hn : 0 < cs.length) : ∃ b off, a = some ⟨b, off, none⟩ ∧ At w b off cs := by
  rcases h with h | h
  · subst h; simp at hn
  · exact h

/-- x[i] of a slice: its address. -/
theorem r_ixS {len cap m : Nat} (h : P.underlying T = some (.slice E)) (hE : TI P E dE sz bts zv) (hx : ρ x = .slice a len cap) (hy : ρ y = .int k (m : Int)) (hr : Row w a cs) (hm : m < len) (hn : m * sz < cs.length) :
    (execOp ρ ⟨dst, .indexAddr T x y, ty, pos, aft, g⟩).run P w = .ok (.value (.pointer (a.map (·.add (m * sz))))) w := by
  obtain ⟨b, off, ha, _⟩ := hr.some_of (by omega)
  subst ha
  have h0 : (0 : Int) ≤ (m : Int) ∧ (m : Int) < (len : Int) := by omega
  simp [execOp, hx, hy, Instr.indexAt, asIntOf, run_underlying h, run_sizeOf hE, hm]
theorem r_loadS1 {j : Nat} (h : P.underlying T = some d) (hd : aggD d = false) (hx : ρ x = .pointer (a.map (·.add j))) (hr : Row w a cs) (hv : cs[j]? = some v) : (execOp ρ ⟨dst, .load T x, ty, pos, aft, g⟩).run P w = .ok (.value v) w := by
  obtain ⟨b, off, ha, hc⟩ := hr.some_of (by have := (List.getElem?_eq_some_iff.1 hv).1; omega)
  subst ha
  exact r_load1 h hd (by rw [hx]; simp [add_lit]) (hc j v hv)
theorem r_loadSA {j : Nat} (h : TI P T d sz bts zv) (hd : aggD d = true) (hx : ρ x = .pointer (a.map (·.add j))) (hr : Row w a cs) (hz : 0 < sz) (hn : j + sz ≤ cs.length) : (execOp ρ ⟨dst, .load T x, ty, pos, aft, g⟩).run P w = .ok (.value (.agg ((cs.drop j).take sz).toArray)) w := by
  obtain ⟨b, off, ha, hc⟩ := hr.some_of (by omega)
  subst ha
  have e : ((cs.drop j).take sz).length = sz := by simp; omega
  refine r_loadA (b := b) (o := off + j) (by rw [e]; exact h) hd (by rw [hx]; simp [add_lit]) ?_
  exact hc.part j fun i v hv => by
    rw [List.getElem?_take] at hv
    split at hv
    · simpa using hv
    · cases hv
/-- a[i] of an array in memory: its address. -/
theorem r_ixA {m len o' : Nat} (h : P.underlying T = some (.array len E)) (hE : TI P E dE sz bts zv) (hx : ρ x = pt b o) (hy : ρ y = .int k (m : Int)) (hm : m < len) (ho : o + m * sz = o') :
    (execOp ρ ⟨dst, .indexAddr T x y, ty, pos, aft, g⟩).run P w = .ok (.value (pt b o')) w := by
  subst ho
  simp [execOp, hx, hy, Instr.indexAt, Instr.sureAddr, asIntOf, run_underlying h, run_sizeOf hE, hm, add_lit]
/-- a[i] of an array value. -/
theorem r_index1 {m len : Nat} (h : P.underlying T = some (.array len E)) (hE : TI P E dE 1 bts zv) (hd : aggD dE = false) (hx : ρ x = .agg cs.toArray) (hy : ρ y = .int k (m : Int)) (hm : m < len) (hv : cs[m]? = some v) :
    (execOp ρ ⟨dst, .index T x y, ty, pos, aft, g⟩).run P w = .ok (.value v) w := by
  simp [execOp, hx, hy, Instr.index, asIntOf, run_underlying h, run_sizeOf hE, hm, part, run_isAgg hE.und, hd, hv]
theorem r_indexStr {m : Nat} {s : ByteArray} {c : UInt8} (h : P.underlying T = some .string) (hx : ρ x = .string s) (hy : ρ y = .int k (m : Int)) (hv : s.data.toList[m]? = some c) :
    (execOp ρ ⟨dst, .index T x y, ty, pos, aft, g⟩).run P w = .ok (.value (b8 c)) w := by
  have hv' : s[m]? = some c := by
    have h1 : m < s.data.toList.length := (List.getElem?_eq_some_iff.1 hv).1
    have h2 : s.data.toList[m] = c := (List.getElem?_eq_some_iff.1 hv).2
    have h3 : m < s.data.size := by simpa using h1
    rw [getElem?_pos s m h3, ← h2]
    rfl
  simp [execOp, hx, hy, Instr.index, asIntOf, run_underlying h, hv']

/-- p.f: its address. -/
def FA (P : Program) (S : TypeId) (i off : Nat) : Prop := ∃ fs f, P.underlying S = some (.struct fs) ∧ fs[i]? = some f ∧ f.offset = off ∧ ∃ t, P.info? f.type = some t ∧ t.size ≠ 0
theorem r_field {i off : Nat} (h : FA P T i off) (hx : ρ x = pt b o) : (execOp ρ ⟨dst, .fieldAddr T x i, ty, pos, aft, g⟩).run P w = .ok (.value (pt b (o + off))) w := by
  obtain ⟨fs, f, h1, h2, h3, t, h4, h5⟩ := h
  subst h3
  simp [execOp, hx, Instr.fieldAt, Instr.sureAddr, run_underlying h1, h2, fieldPlace, sizeOf, typeInfo, program, Sem.run, h4, h5, add_lit]
theorem r_nilCheck {p : Addr} (hx : ρ x = .pointer (some p)) : (execOp ρ ⟨dst, .nilCheck x, ty, pos, aft, g⟩).run P w = .ok (.value (.pointer (some p))) w := by
  simp [execOp, hx]

/-! ### Slicing -/
theorem bound_ok {m y : Nat} {code : BoundsCode} (h : m ≤ y) : (Instr.sliceBound (.int k (m : Int)) y code).run P w = .ok m w := by
  simp [Instr.sliceBound, asIntOf, h]
theorem sub_zero {cap : Nat} : sub a cap 0 sz = a := by
  unfold sub
  split
  · rfl
  · cases a with
    | none => rfl
    | some p => simp [Addr.add]

theorem r_sl_l {len cap l : Nat} (hT : P.underlying T = some (.slice E)) (hE : TI P E dE sz bts zv) (hx : ρ x = .slice a len cap) (hy : ρ y = .int k (l : Int)) (hlh : l ≤ len) :
    (execOp ρ ⟨dst, .slice T x (some y) none none, ty, pos, aft, g⟩).run P w = .ok (.value (.slice (sub a cap l sz) (len - l) (cap - l))) w := by
  simp [execOp, hx, hy, Instr.sliceAt, Instr.slice, Instr.sliceBounds, run_underlying hT, run_sizeOf hE, bound_ok hlh, sub]
theorem r_sl_h {len cap h : Nat} (hT : P.underlying T = some (.slice E)) (hE : TI P E dE sz bts zv) (hx : ρ x = .slice a len cap) (hz : ρ z = .int k (h : Int)) (hc : h ≤ cap) :
    (execOp ρ ⟨dst, .slice T x none (some z) none, ty, pos, aft, g⟩).run P w = .ok (.value (.slice a h cap)) w := by
  have e := sub_zero (a := a) (cap := cap) (sz := sz)
  simp only [sub] at e
  simp [execOp, hx, hz, Instr.sliceAt, Instr.slice, Instr.sliceBounds, run_underlying hT, run_sizeOf hE, bound_ok hc]
  simpa using e
theorem r_sa_0 {len : Nat} (hT : P.underlying T = some (.array len E)) (hE : TI P E dE sz bts zv) (hx : ρ x = pt b o) :
    (execOp ρ ⟨dst, .slice T x none none none, ty, pos, aft, g⟩).run P w = .ok (.value (.slice (some ⟨b, o, none⟩) len len)) w := by
  simp [execOp, hx, Instr.sliceAt, Instr.sureAddr, Instr.sliceBounds, run_underlying hT, run_sizeOf hE, add_lit]
theorem r_sa_l {len l : Nat} (hT : P.underlying T = some (.array len E)) (hE : TI P E dE sz bts zv) (hx : ρ x = pt b o) (hy : ρ y = .int k (l : Int)) (hlh : l < len) :
    (execOp ρ ⟨dst, .slice T x (some y) none none, ty, pos, aft, g⟩).run P w = .ok (.value (.slice (some ⟨b, o + l * sz, none⟩) (len - l) (len - l))) w := by
  have hne : ¬ len = l := by omega
  simp [execOp, hx, hy, Instr.sliceAt, Instr.sureAddr, Instr.sliceBounds, run_underlying hT, run_sizeOf hE, add_lit, bound_ok (Nat.le_of_lt hlh), hne]
theorem r_sa_lh {len l h : Nat} (hT : P.underlying T = some (.array len E)) (hE : TI P E dE sz bts zv) (hx : ρ x = pt b o) (hy : ρ y = .int k (l : Int)) {k2 : IntKind} (hz : ρ z = .int k2 (h : Int)) (hlh : l ≤ h) (hl : l < len) (hc : h ≤ len) :
    (execOp ρ ⟨dst, .slice T x (some y) (some z) none, ty, pos, aft, g⟩).run P w = .ok (.value (.slice (some ⟨b, o + l * sz, none⟩) (h - l) (len - l))) w := by
  have hne : ¬ len = l := by omega
  simp [execOp, hx, hy, hz, Instr.sliceAt, Instr.sureAddr, Instr.sliceBounds, run_underlying hT, run_sizeOf hE, add_lit, bound_ok hlh, bound_ok hc, hne]
theorem r_sa_h {len h : Nat} (hT : P.underlying T = some (.array len E)) (hE : TI P E dE sz bts zv) (hx : ρ x = pt b o) (hz : ρ z = .int k (h : Int)) (hc : h ≤ len) :
    (execOp ρ ⟨dst, .slice T x none (some z) none, ty, pos, aft, g⟩).run P w = .ok (.value (.slice (some ⟨b, o, none⟩) h len)) w := by
  simp [execOp, hx, hz, Instr.sliceAt, Instr.sureAddr, Instr.sliceBounds, run_underlying hT, run_sizeOf hE, add_lit, bound_ok hc]
theorem r_s2a {len cap m : Nat} (hT : P.underlying T = some (.array m E)) (hx : ρ x = .slice a len cap) (hl : m ≤ len) :
    (execOp ρ ⟨dst, .sliceToArrayPointer T x, ty, pos, aft, g⟩).run P w = .ok (.value (.pointer a)) w := by
  have : ¬ len < m := by omega
  simp [execOp, hx, Instr.arrayAt, run_underlying hT, this]

theorem r_len {len cap : Nat} {tys : Array TypeId} (ht : tys[0]? = some T) (hT : P.underlying T = some (.slice E)) (hx : ρ x = .slice a len cap) (args : Array Operand) (ha : args = #[x]) :
    (execOp ρ ⟨dst, .call { callee := .builtin .len, args := args, argTypes := tys }, ty, pos, aft, g⟩).run P w = .ok (.value (vi len)) w := by
  subst ha
  simp [execOp, resolve, invoke, builtin, Builtin.len_, ht, hx, run_underlying hT, goInt]
theorem r_lenStr {s : ByteArray} {tys : Array TypeId} (ht : tys[0]? = some T) (hT : P.underlying T = some .string) (hx : ρ x = .string s) (args : Array Operand) (ha : args = #[x]) :
    (execOp ρ ⟨dst, .call { callee := .builtin .len, args := args, argTypes := tys }, ty, pos, aft, g⟩).run P w = .ok (.value (vi s.size)) w := by
  subst ha
  simp [execOp, resolve, invoke, builtin, Builtin.len_, ht, hx, run_underlying hT, goInt]
/-! ### Making and writing -/
theorem x_alloc (hS : St w0 M w L) (h : TI P T d sz bts zv) (hz : zv.cells = C.toArray) :
    ∃ v w', (execOp ρ ⟨dst, .alloc T, ty, pos, aft, g⟩).run P w = .ok (.value v) w' ∧ ∃ b, v = pt b 0 ∧ St w0 M w' (.blk b (cl C T) :: L) := by
  obtain ⟨i, hi, h1, h2, h3⟩ := h.info
  refine ⟨pt w.heap.size 0, w.alloc (cl C T), ?_, w.heap.size, rfl, hS.alloc _⟩
  simp [execOp, Instr.alloc, zeroValue, typeInfo, program, Sem.run, hi, h3, newVar, newRow, hz]
theorem x_box (hS : St w0 M w L) (hx : ρ x = v) (hz : v.cells = C.toArray) :
    ∃ u w', (execOp ρ ⟨dst, .box T x, ty, pos, aft, g⟩).run P w = .ok (.value u) w' ∧ ∃ b, u = pt b 0 ∧ St w0 M w' (.blk b (cl C T) :: L) := by
  refine ⟨pt w.heap.size 0, w.alloc (cl C T), ?_, w.heap.size, rfl, hS.alloc _⟩
  simp [execOp, Instr.box, hx, newVar, newRow, hz]

/-- cs laid over C from place o on. -/
theorem run_storeVar (h : TI P T d sz bts zv) (hc : v.cells = cs.toArray) (hn : cs.length = sz) (h1 : One cs) (hb : w.heap[b]? = some (cl C E)) (ho : o + cs.length ≤ C.length) :
    (storeVar T ⟨b, o, none⟩ v).run P w = .ok () (w.setRow b (splice C o cs).toArray) := by
  have hst := run_storeCells_at P b o E cs 0 C.toArray w hb (by simpa using ho) h1
  simp only [Nat.add_zero] at hst
  have e1 : v.cells.size = sz := by simp [hc, hn]
  have e2 : v.cells.toList = cs := by simp [hc]
  simp [storeVar, run_sizeOf h, e1, e2, hst, splice]

theorem put_at {C' : List Value} (hS : St w0 M w (l1 ++ .blk b (cl C E) :: l2)) : St w0 M (w.setRow b C'.toArray) (l1 ++ .blk b (cl C' E) :: l2) := by
  have hx := hS.has (.blk b (cl C E)) (by simp)
  refine hS.turnAt rfl rfl rfl (by simp) (fun k hk hne => setRow_other w b k _ (fun e => hne (by simp [Item.id, e]))) ?_ (fun k hk => .inl hk)
  exact ⟨setRow_heap w b _ _ E _ hx.1, hx.2⟩

theorem x_store (l1 : List Item) {l2 : List Item} (hS : St w0 M w (l1 ++ .blk b (cl C E) :: l2)) (h : TI P T d sz bts zv) (hx : ρ x = pt b o) (hy : ρ y = v) (hc : v.cells = cs.toArray) (hn : cs.length = sz) (h1 : One cs) (ho : o + cs.length ≤ C.length) {C' : List Value} (hC : splice C o cs = C') :
    ∃ w', (execOp ρ ⟨none, .store T x y, ty, pos, aft, g⟩).run P w = .ok .skip w' ∧ St w0 M w' (l1 ++ .blk b (cl C' E) :: l2) := by
  subst hC
  refine ⟨_, ?_, put_at hS⟩
  have hr := run_storeVar h hc hn h1 (hS.heap (b := b) (o := cl C E) (by simp)) ho
  simp [execOp, hx, hy, Instr.storeAt, Instr.sureAddr, hr]

theorem splice_all (C cs : List Value) (h : cs.length = C.length) : splice C 0 cs = cs := by
  simp [splice, h]
theorem splice_one (C : List Value) (o : Nat) (v : Value) (h : o < C.length) : splice C o [v] = C.set o v := by
  simp only [splice, List.length_singleton]
  rw [List.set_eq_take_append_cons_drop, if_pos h]
  rfl

/-- A variable of one cell. -/
theorem x_store1 (l1 : List Item) {l2 : List Item} (hS : St w0 M w (l1 ++ .blk b (cl C E) :: l2)) (h : TI P T d 1 bts zv) (hx : ρ x = pt b o) (hy : ρ y = v) (hv : v.oneCell' = true) (ho : o < C.length) :
    ∃ w', (execOp ρ ⟨none, .store T x y, ty, pos, aft, g⟩).run P w = .ok .skip w' ∧ St w0 M w' (l1 ++ .blk b (cl (C.set o v) E) :: l2) :=
  x_store l1 hS h hx hy (cs := [v]) (by cases v <;> simp_all [Value.cells, Value.oneCell']) rfl (one_cons hv one_nil) (by simp only [List.length_singleton]; omega) (splice_one C o v ho)
/-- A whole block. -/
theorem x_storeW (l1 : List Item) {l2 : List Item} (hS : St w0 M w (l1 ++ .blk b (cl C E) :: l2)) (h : TI P T d sz bts zv) (hx : ρ x = pt b 0) (hy : ρ y = .agg cs.toArray) (hn : cs.length = sz) (hC : C.length = sz) (h1 : One cs) :
    ∃ w', (execOp ρ ⟨none, .store T x y, ty, pos, aft, g⟩).run P w = .ok .skip w' ∧ St w0 M w' (l1 ++ .blk b (cl cs E) :: l2) :=
  x_store l1 hS h hx hy (cs := cs) rfl hn h1 (by omega) (splice_all C cs (by omega))

/-- make. -/
theorem x_make {l c : Nat} {k2 : IntKind} (hS : St w0 M w L) (hT : P.underlying T = some (.slice E)) (hE : TI P E dE sz bts zv) (hx : ρ x = .int k (l : Int)) (hy : ρ y = .int k2 (c : Int)) (hlc : l ≤ c) (hb : bts * c ≤ 281474976710656) (hc : c ≤ 9223372036854775807) {zs : List Value} (hz : madeCells zv.cells (c * sz) = zs.toArray) :
    ∃ v w', (execOp ρ ⟨dst, .makeSlice T x y, ty, pos, aft, g⟩).run P w = .ok (.value v) w' ∧ ∃ b, v = .slice (some ⟨b, 0, none⟩) l c ∧ St w0 M w' (.blk b (cl zs E) :: L) := by
  obtain ⟨i, hi, h1, h2, h3⟩ := hE.info
  subst h1; subst h2
  have hr := run_make (P := P) w T E i zv hT hi h3 k k2 l c (by omega) (by omega) (by rw [← Int.natCast_mul]; omega) (by omega)
  simp only [Int.toNat_natCast, hz] at hr
  refine ⟨_, _, ?_, w.heap.size, rfl, hS.alloc _⟩
  simp [execOp, hx, hy, hr]

/-- A copy of bytes (or of whatever has one cell) into a block. -/
theorem x_copy (l1 : List Item) {l2 : List Item} {dLen dCap sLen sCap : Nat} {dT sT : TypeId} (hS : St w0 M w (l1 ++ .blk b (cl C E) :: l2)) (hT : P.underlying dT = some (.slice T)) (hE : TI P T dE 1 bts zv)
    (hx : ρ x = .slice (some ⟨b, o, none⟩) dLen dCap) (hy : ρ y = .slice a sLen sCap) (hr : Row w a cs) (hn : cs.length = sLen) (hfit : o + min sLen dLen ≤ C.length) (h1 : One cs) (args : Array Operand) (ha : args = #[x, y]) :
    ∃ v w', (execOp ρ ⟨dst, .call { callee := .builtin .copy, args := args, argTypes := #[dT, sT] }, ty, pos, aft, g⟩).run P w = .ok (.value v) w' ∧ v = vi (min sLen dLen) ∧ St w0 M w' (l1 ++ .blk b (cl (splice C o (cs.take dLen)) E) :: l2) := by
  subst ha
  obtain ⟨i, hi, hs1, hs2, hs3⟩ := hE.info
  have hbk := hS.heap (b := b) (o := cl C E) (by simp)
  rcases hr with hr | ⟨b', off', ha, hc⟩
  · subst hr
    simp only [List.length_nil] at hn
    subst hn
    refine ⟨vi (min 0 dLen), w, ?_, rfl, ?_⟩
    · cases a with
      | none => simp [execOp, resolve, invoke, builtin, Builtin.copy_, hx, hy, run_underlying hT, Builtin.lenOf, Builtin.firstCells, sizeOf, typeInfo, program, Sem.run, hi, storeCells, goInt]
      | some p => simp [execOp, resolve, invoke, builtin, Builtin.copy_, hx, hy, run_underlying hT, Builtin.lenOf, Builtin.firstCells, loadCells, loadCellsFrom, sizeOf, typeInfo, program, Sem.run, hi, storeCells, goInt]
    · have e : splice C o ([].take dLen) = C := by simp [splice]
      rw [e]; exact hS
  · subst ha
    have hl : (cs.take dLen).length = Nat.min sLen dLen := by simp [hn, Nat.min_comm]
    have hrun := run_copy_row (P := P) w dT sT ty T b o dLen dCap ⟨b', off', none⟩ sLen sCap C.toArray E (cs.take dLen) hT (by simp [hi, hs1]) hbk hl
      (fun j u hu => by rw [add_lit]; exact hc.take j u hu) (by simp only [List.size_toArray, hl]; exact hfit) (one_take h1)
    refine ⟨goInt (cs.take dLen).length, w.setRow b (splice C o (cs.take dLen)).toArray, ?_, ?_, put_at (C' := splice C o (cs.take dLen)) hS⟩
    · simp only [execOp, resolve, hx, hy, List.map_toArray, List.map_cons, List.map_nil, invoke, builtin, Sem.run_bind, Sem.run_pure, Result.andThen_ok, hrun, splice, List.append_assoc]
    · simp [goInt, hl]
end
end Go.Kw
end
section
namespace Go.Kw
set_option linter.unusedVariables false
set_option linter.unusedSimpArgs false

/-- An element of a list, with a default. -/
def gt {α : Type} [Inhabited α] (l : List α) (i : Nat) : α := l.getD i default
theorem gt_eq {α : Type} [Inhabited α] (l : List α) (i : Nat) (h : i < l.length) : gt l i = l[i] := by simp [gt, h]
theorem get_gt {α : Type} [Inhabited α] (l : List α) (i : Nat) (h : i < l.length) : l[i]? = some (gt l i) := by simp [gt, h]
theorem map_gt {α : Type} [Inhabited α] (f : α → Value) (l : List α) (i : Nat) (h : i < l.length) : (l.map f)[i]? = some (f (gt l i)) := by simp [gt, h]
theorem ext_gt {α : Type} [Inhabited α] {l m : List α} (hl : l.length = m.length) (h : ∀ i, i < l.length → gt l i = gt m i) : l = m := by
  apply List.ext_getElem hl
  intro i h1 h2
  have := h i h1
  rwa [gt_eq l i h1, gt_eq m i h2] at this
theorem gt_set {α : Type} [Inhabited α] (l : List α) (i j : Nat) (v : α) : gt (l.set i v) j = if i = j ∧ j < l.length then v else gt l j := by
  simp only [gt, List.getD_eq_getElem?_getD, List.getElem?_set]
  by_cases h : i = j
  · subst h
    by_cases h2 : i < l.length <;> simp [h2]
  · simp [h]

section
variable {P : Program} {ρ : Operand → Value} {w w0 : World} {M : List Nat} {L l1 l2 : List Item} {dst : Option Tmp} {ty : TypeId} {pos : String} {aft : Array Edge} {g : Option (Nat × Bool)} {x y z : Operand} {T T2 E : TypeId} {v : Value} {k : IntKind}
  {d dE : TypeDesc} {sz bts b o : Nat} {zv : Value} {a : Option Addr} {cs C : List Value}

/-! ### built values -/
theorem fold_put (v : Array Value) : ∀ (l : List Value) (j : Nat) (pre mid post : List Value), mid.length = l.length → pre.length = o + j →
    (l.zipIdx j).foldl (fun (cs : Array Value) (x : Value × Nat) => cs.setIfInBounds (o + x.2) x.1) (pre ++ mid ++ post).toArray = (pre ++ l ++ post).toArray := by
  intro l
  induction l with
  | nil => intro j pre mid post hm hp; simp at hm; subst hm; simp
  | cons c l ih =>
    intro j pre mid post hm hp
    match mid, hm with
    | m :: mid, hm =>
      simp only [List.zipIdx_cons, List.foldl_cons]
      have e : (pre ++ (m :: mid) ++ post).toArray.setIfInBounds (o + j) c = ((pre ++ [c]) ++ mid ++ post).toArray := by
        simp only [List.setIfInBounds_toArray]
        congr 1
        rw [List.append_assoc, List.set_append_right _ _ (by omega)]
        simp [hp]
      rw [e, ih (j + 1) (pre ++ [c]) mid post (by simpa using hm) (by simp; omega)]
      simp

/-- Where the parts of a built value lie, one behind the other, the whole is they put together. -/
theorem fill_all (place : Nat → Option (Nat × Nat)) : ∀ (parts : List (Nat × Value)) (cells : List (List Value)) (pre rest : List Value),
    parts.length = cells.length → (∀ i, i < parts.length → ∃ j u, parts[i]? = some (j, u) ∧ u.cells = (cells.getD i []).toArray ∧ place j = some (pre.length + ((cells.take i).flatten).length, (cells.getD i []).length)) →
    rest.length = cells.flatten.length → Instr.fill place (pre ++ rest).toArray parts = some (pre ++ cells.flatten).toArray := by
  intro parts
  induction parts with
  | nil =>
    intro cells pre rest hl _ hr
    have : cells = [] := List.eq_nil_of_length_eq_zero (by simpa using hl.symm)
    subst this
    have : rest = [] := List.eq_nil_of_length_eq_zero (by simpa using hr)
    subst this
    simp [Instr.fill]
  | cons p parts ih =>
    intro cells pre rest hl hp hr
    match cells, hl with
    | c :: cells, hl =>
      obtain ⟨j, u, h1, h2, h3⟩ := hp 0 (by simp)
      simp at h1
      subst h1
      simp at h2 h3
      have hlen : c.length ≤ rest.length := by simp at hr; omega
      obtain ⟨mid, post, rfl, hmid⟩ : ∃ mid post, rest = mid ++ post ∧ mid.length = c.length := ⟨rest.take c.length, rest.drop c.length, by simp, by simp; omega⟩
      have hfold := fold_put (o := pre.length) #[] c 0 pre mid post (by omega) (by omega)
      simp only [Instr.fill, h3, h2]
      have n1 : ¬ (c.toArray.size ≠ c.length) := by simp
      have n2 : ¬ (pre.length + c.toArray.size > (pre ++ (mid ++ post)).toArray.size) := by simp; omega
      have hb : (c.toArray.size != c.length || decide (pre.length + c.toArray.size > (pre ++ (mid ++ post)).toArray.size)) = false := by
        simp; omega
      have hz : (c.toArray.zipIdx.foldl (fun (cs : Array Value) (x : Value × Nat) => cs.setIfInBounds (pre.length + x.2) x.1) (pre ++ (mid ++ post)).toArray) = (pre ++ c ++ post).toArray := by
        rw [← Array.foldl_toList, Array.toList_zipIdx, ← List.append_assoc]
        exact hfold
      have hi := ih cells (pre ++ c) post (by simpa using hl) (fun i hi => by
        obtain ⟨j', u', g1, g2, g3⟩ := hp (i + 1) (by simp; omega)
        refine ⟨j', u', by simpa using g1, by simpa using g2, ?_⟩
        simp at g3
        simp [g3, Nat.add_assoc]) (by simp at hr ⊢; omega)
      simp only [ne_eq, List.size_toArray, not_true_eq_false, decide_false, Bool.false_or]
      rw [if_neg (by simp; omega), hz, hi]
      simp

theorem r_build {parts : Array (Nat × Operand)} {ps : List (Nat × Value)} {out : List Value} {fs : Array Field} {places : List (Nat × Nat)} (hT : P.underlying T = some (.struct fs)) (hZ : TI P T d sz bts zv)
    (hpl : (fs.mapM (fun (f : Field) => do pure (f.offset, ← sizeOf f.type) : Field → Sem (Nat × Nat))).run P w = .ok places.toArray w)
    (hp : parts.toList.map (fun x => (x.1, ρ x.2)) = ps) (hf : Instr.fill (places.toArray[·]?) zv.cells ps = some out.toArray) :
    (execOp ρ ⟨dst, .build T parts, ty, pos, aft, g⟩).run P w = .ok (.value (.agg out.toArray)) w := by
  obtain ⟨i, hi, h1, h2, h3⟩ := hZ.info
  have hp' : (parts.map fun (x : Nat × Operand) => (x.1, ρ x.2)).toList = ps := by simpa using hp
  have hz : (zeroValue T).run P w = .ok zv w := by simp [zeroValue, typeInfo, program, Sem.run, hi, h3]
  simp only [execOp, Instr.build, Sem.run_bind, hz, Result.andThen_ok, run_underlying hT, hpl, hp', hf, Sem.run_pure]

/-- A built array of single cells, all said. -/
theorem r_buildA {parts : Array (Nat × Operand)} {vs : List Value} {len : Nat} (hZ : TI P T (.array len E) len bts zv) (hE : TI P E dE 1 sz v) (hp : parts.toList.map (fun x => (x.1, ρ x.2)) = vs.zipIdx.map (fun x => (x.2, x.1))) (hl : vs.length = len) (hzc : zv.cells.size = len) (h1 : One vs) :
    (execOp ρ ⟨dst, .build T parts, ty, pos, aft, g⟩).run P w = .ok (.value (.agg vs.toArray)) w := by
  obtain ⟨i, hi, _, _, h3⟩ := hZ.info
  have hp' : (parts.map fun (x : Nat × Operand) => (x.1, ρ x.2)).toList = vs.zipIdx.map (fun x => (x.2, x.1)) := by simpa using hp
  have hz : (zeroValue T).run P w = .ok zv w := by simp [zeroValue, typeInfo, program, Sem.run, hi, h3]
  have hfill : Instr.fill (fun i => some (i * 1, 1)) ([] ++ zv.cells.toList).toArray (vs.zipIdx.map (fun x => (x.2, x.1))) = some ([] ++ (vs.map fun v => [v]).flatten).toArray := by
    refine fill_all _ _ _ [] _ (by simp) ?_ ?_
    · intro i hi
      simp at hi
      refine ⟨i, vs[i], by simp [hi], ?_, ?_⟩
      · have hone := h1 vs[i] (List.getElem_mem hi)
        have e : vs[i].cells = #[vs[i]] := by cases hv : vs[i] <;> simp_all [Value.cells, Value.oneCell']
        rw [e]
        simp [hi]
      · have e : ∀ (l : List Value) (k : Nat), k ≤ l.length → (((l.map fun v => [v]).take k).flatten).length = k := by
          intro l
          induction l with
          | nil => intro k hk; simp at hk; subst hk; rfl
          | cons a l ih =>
            intro k hk
            cases k with
            | zero => rfl
            | succ k => simp at hk; simp [ih k hk]
        have e2 := e vs i (by omega)
        simp only [List.length_nil, Nat.zero_add, Nat.mul_one]
        rw [e2]
        simp [hi]
    · have e : ∀ (l : List Value), ((l.map fun v => [v]).flatten).length = l.length := by
        intro l; induction l with
        | nil => rfl
        | cons a l ih => simp [ih]
      rw [e]; simp [hzc, hl]
  have e : ∀ (l : List Value), (l.map fun v => [v]).flatten = l := by
    intro l; induction l with
    | nil => rfl
    | cons a l ih => simp [ih]
  simp only [List.nil_append, Array.toArray_toList, e] at hfill
  simp only [execOp, Instr.build, Sem.run_bind, hz, Result.andThen_ok, run_underlying hZ.und, run_sizeOf hE, hp', hfill, Sem.run_pure]

/-! ### conversions -/
theorem c_u8_u32 {c : UInt8} (hT : P.underlying T = some (.int .u32)) (hS : ∃ d, P.underlying T2 = some d) (hx : ρ x = b8 c) : (execOp ρ ⟨dst, .convert T2 T x, ty, pos, aft, g⟩).run P w = .ok (.value (v32 c.toUInt32)) w :=
  r_conv hT hS hx (by have := c.toNat_lt; rw [wrap_u32, UInt8.toNat_toUInt32]; omega)
theorem c_u8_i64 {c : UInt8} (hT : P.underlying T = some (.int .i64)) (hS : ∃ d, P.underlying T2 = some d) (hx : ρ x = b8 c) : (execOp ρ ⟨dst, .convert T2 T x, ty, pos, aft, g⟩).run P w = .ok (.value (vi c.toNat)) w :=
  r_conv hT hS hx (by have := c.toNat_lt; rw [wi (by omega) (by omega)])
theorem c_u32_u8 {c : UInt32} (hT : P.underlying T = some (.int .u8)) (hS : ∃ d, P.underlying T2 = some d) (hx : ρ x = v32 c) : (execOp ρ ⟨dst, .convert T2 T x, ty, pos, aft, g⟩).run P w = .ok (.value (b8 c.toUInt8)) w :=
  r_conv hT hS hx (by rw [wrap_u8, UInt32.toNat_toUInt8]; omega)
theorem c_u64_u32 {c : UInt64} (hT : P.underlying T = some (.int .u32)) (hS : ∃ d, P.underlying T2 = some d) (hx : ρ x = v64 c) : (execOp ρ ⟨dst, .convert T2 T x, ty, pos, aft, g⟩).run P w = .ok (.value (v32 c.toUInt32)) w :=
  r_conv hT hS hx (by rw [wrap_u32, UInt64.toNat_toUInt32]; omega)
theorem c_i64_u64 {a : Nat} (hT : P.underlying T = some (.int .u64)) (hS : ∃ d, P.underlying T2 = some d) (hx : ρ x = vi a) (h : a ≤ 9223372036854775807) : (execOp ρ ⟨dst, .convert T2 T x, ty, pos, aft, g⟩).run P w = .ok (.value (v64 (UInt64.ofNat a))) w :=
  r_conv hT hS hx (by rw [wrap_u64, UInt64.toNat_ofNat']; omega)
theorem c_i64_u32 {a : Nat} (hT : P.underlying T = some (.int .u32)) (hS : ∃ d, P.underlying T2 = some d) (hx : ρ x = vi a) (h : a ≤ 9223372036854775807) : (execOp ρ ⟨dst, .convert T2 T x, ty, pos, aft, g⟩).run P w = .ok (.value (v32 (UInt32.ofNat a))) w :=
  r_conv hT hS hx (by rw [wrap_u32, UInt32.toNat_ofNat']; omega)
theorem c_i64_u8 {a : Nat} (hT : P.underlying T = some (.int .u8)) (hS : ∃ d, P.underlying T2 = some d) (hx : ρ x = vi a) : (execOp ρ ⟨dst, .convert T2 T x, ty, pos, aft, g⟩).run P w = .ok (.value (b8 (UInt8.ofNat a))) w :=
  r_conv hT hS hx (by rw [wrap_u8, UInt8.toNat_ofNat']; omega)
/-- An element of a block that is a list of one make. -/
theorem x_store1m {α : Type} {f : α → Value} {ws : List α} {u : α} (l1 : List Item) {l2 : List Item} (hS : St w0 M w (l1 ++ .blk b (cl (ws.map f) E) :: l2)) (h : TI P T d 1 bts zv) (hx : ρ x = pt b o) (hy : ρ y = f u) (hv : (f u).oneCell' = true) (ho : o < ws.length) :
    ∃ w', (execOp ρ ⟨none, .store T x y, ty, pos, aft, g⟩).run P w = .ok .skip w' ∧ St w0 M w' (l1 ++ .blk b (cl ((ws.set o u).map f) E) :: l2) := by
  have := x_store1 (ty := ty) (pos := pos) (aft := aft) (g := g) l1 hS h hx hy hv (by simpa using ho)
  rwa [← List.map_set] at this

theorem run_loadVar_blk {fr : Nat × Nat} (h : TI P T d sz bts zv) (hd : aggD d = true) (hb : w.heap[b]? = some (.cells C.toArray E fr)) (hl : C.length = sz) : (loadVar T ⟨b, 0, none⟩).run P w = .ok (.agg C.toArray) w := by
  subst hl
  exact run_loadVar_at h hd (at_all hb)

theorem St.fin (h : St w0 M w L) : St w0 M w [] := h.sub (List.nil_sublist _)
end

/-! ### Loops over the frame's list -/
def Keep (e0 e : Env) : List Nat → Prop
  | [] => True
  | i :: l => look e i = look e0 i ∧ Keep e0 e l
def again' (e0 e : Env) : List Nat → Env
  | [] => e
  | i :: l => (i, look e0 i) :: again' e0 e l
theorem look_again' (e0 e : Env) (l : List Nat) (hk : Keep e0 e l) (i : Nat) : look (again' e0 e l) i = look e i := by
  induction l with
  | nil => rfl
  | cons j l ih =>
    simp only [again', look_cons]
    by_cases h : j = i
    · subst h; simp [hk.1]
    · simp [h, ih hk.2]
theorem Keep.refl (e : Env) : ∀ l, Keep e e l
  | [] => trivial
  | _ :: l => ⟨rfl, Keep.refl e l⟩

theorem c_loopE {P : Program} {Q : Exit → Act → World → Prop} {n : Nat} {e0 : Env} {w : World} {c : Code} (S : List Nat) (I : Nat → Env → World → Prop) (N : Nat) (h0 : I N e0 w)
    (hr : ∀ d e w, I d e w → Keep e0 e S → c.wp P (Exit.then (fun a' w' => ∃ d' e', d' < d ∧ a' = act n e' ∧ I d' e' w' ∧ Keep e0 e' S) Q) (act n (again' e0 e S)) w) : (Code.loop c).wp P Q (act n e0) w := by
  refine c_loop (fun d a w => ∃ e, a = act n e ∧ I d e w ∧ Keep e0 e S) N ⟨e0, rfl, h0, Keep.refl _ _⟩ ?_
  rintro d a w ⟨e, rfl, hI, hk⟩
  have := hr d e w hI hk
  rw [act_congr n _ _ (look_again' e0 e S hk)] at this
  refine wp_mono this fun ex a' w' hq => ?_
  cases ex <;> first
    | exact hq
    | (obtain ⟨d', e', h1, h2, h3, h4⟩ := hq
       exact ⟨d', h1, e', h2, h3, h4⟩)

theorem c_set {P : Program} {Q : Exit → Act → World → Prop} {n : Nat} {e : Env} {w : World} {c : Code} {d : Nat} {v : Value} (h : look e d = v) (hc : c.wp P Q (act n ((d, v) :: e)) w) : c.wp P Q (act n e) w := by
  subst h
  rwa [act_dup n e d]
end Go.Kw
namespace Go.Kw
section
variable {P : Program} {ρ : Operand → Value} {w w0 : World} {M : List Nat} {L l1 l2 : List Item} {dst : Option Tmp} {ty : TypeId} {pos : String} {aft : Array Edge} {g : Option (Nat × Bool)} {x y z : Operand} {T T2 E : TypeId} {v : Value} {k : IntKind}
  {d dE : TypeDesc} {sz bts b o : Nat} {zv : Value} {a : Option Addr} {cs C : List Value}

/-- Behind a pointer of which the cells are known. -/
theorem r_loadAt1 {off j : Nat} (h : P.underlying T = some d) (hd : aggD d = false) (hx : ρ x = pt b o) (hA : At w b off cs) (hv : cs[j]? = some v) (ho : off + j = o) : (execOp ρ ⟨dst, .load T x, ty, pos, aft, g⟩).run P w = .ok (.value v) w := by
  subst ho
  exact r_load1 h hd hx (hA j v hv)
/-- A part of a block that is a list of one make. -/
theorem r_loadBPm {α : Type} {f : α → Value} {ws : List α} {fr : Nat × Nat} (h : TI P T d sz bts zv) (hd : aggD d = true) (hx : ρ x = pt b o) (hb : w.heap[b]? = some (.cells (ws.map f).toArray E fr)) (hl : o + sz ≤ ws.length) :
    (execOp ρ ⟨dst, .load T x, ty, pos, aft, g⟩).run P w = .ok (.value (.agg (((ws.drop o).take sz).map f).toArray)) w := by
  have := r_loadBP (dst := dst) (ty := ty) (pos := pos) (aft := aft) (g := g) h hd hx hb (by simpa using hl)
  rw [this]
  simp [List.map_take, List.map_drop]

theorem r_sa1_0 {len : Nat} (hT : P.underlying T = some (.array len E)) (hE : TI P E dE 1 bts zv) (hx : ρ x = pt b o) :
    (execOp ρ ⟨dst, .slice T x none none none, ty, pos, aft, g⟩).run P w = .ok (.value (.slice (some ⟨b, o, none⟩) len len)) w := r_sa_0 hT hE hx
theorem r_sa1_h {len h : Nat} (hT : P.underlying T = some (.array len E)) (hE : TI P E dE 1 bts zv) (hx : ρ x = pt b o) (hz : ρ z = .int k (h : Int)) (hc : h ≤ len) :
    (execOp ρ ⟨dst, .slice T x none (some z) none, ty, pos, aft, g⟩).run P w = .ok (.value (.slice (some ⟨b, o, none⟩) h len)) w := r_sa_h hT hE hx hz hc
theorem r_sa1_l {len l : Nat} (hT : P.underlying T = some (.array len E)) (hE : TI P E dE 1 bts zv) (hx : ρ x = pt b 0) (hy : ρ y = .int k (l : Int)) (hlh : l < len) :
    (execOp ρ ⟨dst, .slice T x (some y) none none, ty, pos, aft, g⟩).run P w = .ok (.value (.slice (some ⟨b, l, none⟩) (len - l) (len - l))) w := by
  have := r_sa_l (dst := dst) (ty := ty) (pos := pos) (aft := aft) (g := g) (w := w) hT hE hx hy hlh
  simpa using this
theorem r_sa1_lh {len l h : Nat} (hT : P.underlying T = some (.array len E)) (hE : TI P E dE 1 bts zv) (hx : ρ x = pt b 0) (hy : ρ y = .int k (l : Int)) {k2 : IntKind} (hz : ρ z = .int k2 (h : Int)) (hlh : l ≤ h) (hl : l < len) (hc : h ≤ len) :
    (execOp ρ ⟨dst, .slice T x (some y) (some z) none, ty, pos, aft, g⟩).run P w = .ok (.value (.slice (some ⟨b, l, none⟩) (h - l) (len - l))) w := by
  have := r_sa_lh (dst := dst) (ty := ty) (pos := pos) (aft := aft) (g := g) (w := w) hT hE hx hy hz hlh hl hc
  simpa using this

/-- A copy from one list of one make into another. -/
theorem x_copym {α : Type} {f : α → Value} {ws us : List α} (l1 : List Item) {l2 : List Item} {dLen dCap sLen sCap : Nat} {dT sT : TypeId} (hS : St w0 M w (l1 ++ .blk b (cl (ws.map f) E) :: l2)) (hT : P.underlying dT = some (.slice T)) (hE : TI P T dE 1 bts zv)
    (hx : ρ x = .slice (some ⟨b, o, none⟩) dLen dCap) (hy : ρ y = .slice a sLen sCap) (hr : Row w a (us.map f)) (hn : us.length = sLen) (hd : sLen ≤ dLen) (hfit : o + sLen ≤ ws.length) (h1 : ∀ x, (f x).oneCell' = true) (args : Array Operand) (ha : args = #[x, y]) :
    ∃ v w', (execOp ρ ⟨dst, .call { callee := .builtin .copy, args := args, argTypes := #[dT, sT] }, ty, pos, aft, g⟩).run P w = .ok (.value v) w' ∧ v = vi sLen ∧ St w0 M w' (l1 ++ .blk b (cl ((splice ws o us).map f) E) :: l2) := by
  have hm : min sLen dLen = sLen := Nat.min_eq_left hd
  obtain ⟨v, w', h1', h2, h3⟩ := x_copy (dst := dst) (ty := ty) (pos := pos) (aft := aft) (g := g) l1 hS hT hE hx hy hr (by simpa using hn) (by rw [hm]; simpa using hfit) (one_map us h1) args ha
  refine ⟨v, w', h1', by rw [h2, hm], ?_⟩
  have e : splice (ws.map f) o ((us.map f).take dLen) = (splice ws o us).map f := by
    rw [List.take_of_length_le (by simp; omega)]
    simp [splice, List.map_take, List.map_drop]
  rw [e] at h3
  exact h3
end

/-! ### Lists that are filled from the left -/
def upto {α : Type} (n : Nat) (f : Nat → α) (z : α) (k : Nat) : List α := (List.range n).map fun j => if j < k then f j else z
@[simp] theorem upto_len {α : Type} (n : Nat) (f : Nat → α) (z : α) (k : Nat) : (upto n f z k).length = n := by simp [upto]
theorem upto_zero {α : Type} (n : Nat) (f : Nat → α) (z : α) : upto n f z 0 = List.replicate n z := by
  apply List.ext_getElem <;> simp [upto]
theorem upto_full {α : Type} (n : Nat) (f : Nat → α) (z : α) : upto n f z n = (List.range n).map f := by
  apply List.ext_getElem <;> simp +contextual [upto]
theorem upto_set {α : Type} (n : Nat) (f : Nat → α) (z : α) (k : Nat) (_ : k < n) : (upto n f z k).set k (f k) = upto n f z (k + 1) := by
  apply List.ext_getElem
  · simp
  · intro i h1 h2
    simp only [List.getElem_set, upto, List.getElem_map, List.getElem_range]
    by_cases hk : k = i
    · subst hk; simp
    · rw [if_neg hk]
      by_cases hi : i < k
      · rw [if_pos hi, if_pos (by omega)]
      · rw [if_neg hi, if_neg (by omega)]
theorem flat_splice {α : Type} (c : Nat) : ∀ (ls : List (List α)) (k : Nat) (x : List α), (∀ l ∈ ls, l.length = c) → k < ls.length → x.length = c → splice ls.flatten (c * k) x = (ls.set k x).flatten := by
  intro ls
  induction ls with
  | nil => intro k x _ h; simp at h
  | cons l ls ih =>
    intro k x hl hk hx
    have h0 : l.length = c := hl l (by simp)
    cases k with
    | zero =>
      simp only [Nat.mul_zero, List.flatten_cons, List.set_cons_zero, splice, List.take_zero, List.nil_append, Nat.zero_add]
      rw [List.drop_append_of_le_length (by omega), List.drop_of_length_le (by omega)]
      simp
    | succ k =>
      have e : c * (k + 1) = l.length + c * k := by rw [h0, Nat.mul_add]; omega
      have := ih k x (fun m hm => hl m (by simp [hm])) (by simpa using hk) hx
      simp only [List.flatten_cons, List.set_cons_succ]
      rw [← this, e]
      simp only [splice]
      rw [List.take_length_add_append, Nat.add_assoc, List.drop_length_add_append, List.append_assoc]
end Go.Kw
end
section
namespace Go.Kw
set_option linter.unusedVariables false
set_option linter.unusedSimpArgs false

def word4 (o : List UInt8) : UInt32 :=
  (((gt o 0).toUInt32 <<< 24 ||| (gt o 1).toUInt32 <<< 16) ||| (gt o 2).toUInt32 <<< 8) ||| (gt o 3).toUInt32
def octs (n : UInt32) : List UInt8 := [(n >>> 24).toUInt8, (n >>> 16).toUInt8, (n >>> 8).toUInt8, n.toUInt8]
def octs8 (n : UInt64) : List UInt8 := octs (n >>> 32).toUInt32 ++ octs n.toUInt32
@[simp] theorem octs_len (n : UInt32) : (octs n).length = 4 := rfl
@[simp] theorem octs8_len (n : UInt64) : (octs8 n).length = 8 := rfl
def rotl (x : UInt32) (s : Nat) : UInt32 := x <<< (UInt32.ofNat s) ||| x >>> (UInt32.ofNat (32 - s))
def turnW (w : List UInt32) (r i : Nat) : UInt32 := rotl (gt w ((i + 1 + r) % 16)) (5 + i) ^^^ (2654435769 * UInt64.ofNat (16 * r + i + 1)).toUInt32
theorem and31 (k : Nat) (h : k < 32) : (UInt64.ofNat k &&& 31).toNat = k := by
  have e : (31 : UInt64).toNat = 2 ^ 5 - 1 := by decide
  rw [UInt64.toNat_and, e, Nat.and_two_pow_sub_one_eq_mod, UInt64.toNat_ofNat']
  omega
theorem sub31 (k : Nat) (h : k < 32) : ((32 : UInt64) - (UInt64.ofNat k &&& 31)).toNat = 32 - k := by
  have h1 := and31 k h
  have e : (32 : UInt64).toNat = 32 := by decide
  rw [UInt64.toNat_sub, h1, e]
  omega
theorem splice_len {α : Type} (L : List α) (o : Nat) (cs : List α) (h : o + cs.length ≤ L.length) : (splice L o cs).length = L.length := length_splice L o cs h
end Go.Kw
namespace Go.Kw
/-- The words of a state, and a state's octets. -/
def wordsF (s : List UInt8) (k : Nat) : UInt32 := word4 ((s.drop (4 * k)).take 4)
def wordsL (s : List UInt8) : List UInt32 := (List.range 16).map (wordsF s)
def stateL (ws : List UInt32) : List UInt8 := ((List.range 16).map fun j => octs (gt ws j)).flatten
@[simp] theorem wordsL_len (s : List UInt8) : (wordsL s).length = 16 := by simp [wordsL]
theorem flat_len {α : Type} (c : Nat) : ∀ (ls : List (List α)), (∀ l ∈ ls, l.length = c) → ls.flatten.length = c * ls.length := by
  intro ls
  induction ls with
  | nil => intro _; simp
  | cons l ls ih =>
    intro h
    have h0 := h l (by simp)
    have := ih (fun m hm => h m (by simp [hm]))
    simp only [List.flatten_cons, List.length_append, List.length_cons, this, h0, Nat.mul_add]
    omega
@[simp] theorem stateL_len (ws : List UInt32) : (stateL ws).length = 64 := by
  unfold stateL
  rw [flat_len 4 _ (by intro l hl; obtain ⟨j, _, rfl⟩ := List.mem_map.1 hl; rfl)]
  simp
def stateTo (ws : List UInt32) (k : Nat) : List UInt8 := (upto 16 (fun j => octs (gt ws j)) [0, 0, 0, 0] k).flatten
theorem upto_mem {α : Type} {n : Nat} {f : Nat → α} {z : α} {k : Nat} {x : α} (h : x ∈ upto n f z k) : (∃ j, x = f j) ∨ x = z := by
  obtain ⟨j, _, rfl⟩ := List.mem_map.1 h
  split
  · exact .inl ⟨_, rfl⟩
  · exact .inr rfl
theorem stateTo_four (ws : List UInt32) (k : Nat) : ∀ l ∈ upto 16 (fun j => octs (gt ws j)) [0, 0, 0, 0] k, l.length = 4 := by
  intro l hl
  rcases upto_mem hl with ⟨j, rfl⟩ | rfl <;> rfl
@[simp] theorem stateTo_len (ws : List UInt32) (k : Nat) : (stateTo ws k).length = 64 := by
  unfold stateTo
  rw [flat_len 4 _ (stateTo_four ws k)]
  simp
theorem stateTo_zero (ws : List UInt32) : stateTo ws 0 = List.replicate 64 0 := by
  unfold stateTo
  rw [upto_zero]
  rfl
theorem stateTo_full (ws : List UInt32) : stateTo ws 16 = stateL ws := by
  unfold stateTo stateL
  rw [upto_full]
theorem stateTo_step (ws : List UInt32) (k : Nat) (h : k < 16) : splice (stateTo ws k) (4 * k) (octs (gt ws k)) = stateTo ws (k + 1) := by
  unfold stateTo
  rw [flat_splice 4 _ _ _ (stateTo_four ws k) (by simpa using h) rfl, upto_set _ _ _ _ h]
end Go.Kw
namespace Go.Kw
/-- One step of the stirring, and one back. -/
def stirStep (w : List UInt32) (r i : Nat) : List UInt32 :=
  let w1 := w.set i (gt w i + turnW w r i)
  w1.set ((i + 9) % 16) (gt w1 ((i + 9) % 16) ^^^ rotl (gt w1 i) 11)
def unStep (w : List UInt32) (r i : Nat) : List UInt32 :=
  let w1 := w.set ((i + 9) % 16) (gt w ((i + 9) % 16) ^^^ rotl (gt w i) 11)
  w1.set i (gt w1 i - turnW w1 r i)
def stirIn (w : List UInt32) (r : Nat) : Nat → List UInt32
  | 0 => w
  | i + 1 => stirStep (stirIn w r i) r i
def stirOut (w : List UInt32) : Nat → List UInt32
  | 0 => w
  | r + 1 => stirIn (stirOut w r) r 16
def unIn (w : List UInt32) (r : Nat) : Nat → List UInt32
  | 0 => w
  | k + 1 => unStep (unIn w r k) r (15 - k)
def unOut (w : List UInt32) : Nat → List UInt32
  | 0 => w
  | k + 1 => unIn (unOut w k) (7 - k) 16
def stirL (s : List UInt8) : List UInt8 := stateL (stirOut (wordsL s) 8)
def unstirL (s : List UInt8) : List UInt8 := stateL (unOut (wordsL s) 8)
@[simp] theorem stirStep_len (w : List UInt32) (r i : Nat) : (stirStep w r i).length = w.length := by simp [stirStep]
@[simp] theorem unStep_len (w : List UInt32) (r i : Nat) : (unStep w r i).length = w.length := by simp [unStep]
@[simp] theorem stirIn_len (w : List UInt32) (r i : Nat) : (stirIn w r i).length = w.length := by induction i <;> simp_all [stirIn]
@[simp] theorem stirOut_len (w : List UInt32) (r : Nat) : (stirOut w r).length = w.length := by induction r <;> simp_all [stirOut]
@[simp] theorem unIn_len (w : List UInt32) (r i : Nat) : (unIn w r i).length = w.length := by induction i <;> simp_all [unIn]
@[simp] theorem unOut_len (w : List UInt32) (r : Nat) : (unOut w r).length = w.length := by induction r <;> simp_all [unOut]
@[simp] theorem stirL_len (s : List UInt8) : (stirL s).length = 64 := by simp [stirL]
@[simp] theorem unstirL_len (s : List UInt8) : (unstirL s).length = 64 := by simp [unstirL]

/-! ### Each step undoes the other -/
end Go.Kw
namespace Go.Kw
def hexDs : List UInt8 := [48, 49, 50, 51, 52, 53, 54, 55, 56, 57, 97, 98, 99, 100, 101, 102]
def hexd (c : UInt8) : List UInt8 := [gt hexDs (c >>> 4).toNat, gt hexDs (c &&& 15).toNat]
def hexL (bs : List UInt8) : List UInt8 := bs.flatMap hexd
@[simp] theorem hexd_len (c : UInt8) : (hexd c).length = 2 := rfl
@[simp] theorem hexL_len (bs : List UInt8) : (hexL bs).length = 2 * bs.length := by
  induction bs with
  | nil => rfl
  | cons c bs ih => simp only [hexL, List.flatMap_cons, List.length_append] at ih ⊢; rw [ih]; simp [hexd]; omega
theorem take_snoc {α : Type} [Inhabited α] (l : List α) (k : Nat) (h : k < l.length) : l.take (k + 1) = l.take k ++ [gt l k] := by
  rw [List.take_succ_eq_append_getElem h, gt_eq l k h]
theorem hexL_step (bs : List UInt8) (k : Nat) (h : k < bs.length) : hexL (bs.take (k + 1)) = hexL (bs.take k) ++ hexd (gt bs k) := by
  rw [take_snoc bs k h]; simp [hexL]
theorem shr4_lt (c : UInt8) : (c >>> (UInt8.ofNat 4)).toNat < 16 := by
  have := c.toNat_lt
  rw [UInt8.toNat_shiftRight, show (UInt8.ofNat 4).toNat % 8 = 4 from rfl, Nat.shiftRight_eq_div_pow]
  omega
theorem and15_lt (c : UInt8) : (c &&& 15).toNat < 16 := by
  rw [UInt8.toNat_and]
  exact Nat.lt_of_le_of_lt Nat.and_le_right (by decide)
end Go.Kw
namespace Go.Kw
/-! ### The reference's words and octets are the same -/
def rwTo (s : List UInt8) : Nat → List UInt32
  | 0 => List.replicate 16 0
  | k + 1 => (rwTo s k).set (k / 4) (gt (rwTo s k) (k / 4) <<< (UInt32.ofNat 8) ||| (gt s k).toUInt32)
@[simp] theorem rwTo_len (s : List UInt8) (k : Nat) : (rwTo s k).length = 16 := by induction k <;> simp_all [rwTo]
theorem four_words (a b c d : UInt32) : (((((0 : UInt32) <<< (UInt32.ofNat 8) ||| a) <<< (UInt32.ofNat 8) ||| b) <<< (UInt32.ofNat 8) ||| c) <<< (UInt32.ofNat 8) ||| d) = ((a <<< 24 ||| b <<< 16) ||| c <<< 8) ||| d := by
  have h8 : UInt32.ofNat 8 = 8 := rfl
  rw [h8]
  apply UInt32.eq_of_toBitVec_eq
  simp only [UInt32.toBitVec_or, UInt32.toBitVec_shiftLeft]
  have e8 : (UInt32.toBitVec 8 % 32) = (8 : BitVec 32) := rfl
  have e16 : (UInt32.toBitVec 16 % 32) = (16 : BitVec 32) := rfl
  have e24 : (UInt32.toBitVec 24 % 32) = (24 : BitVec 32) := rfl
  rw [e8, e16, e24]
  generalize a.toBitVec = a, b.toBitVec = b, c.toBitVec = c, d.toBitVec = d
  have s8 : ∀ x : BitVec 32, x <<< (8 : BitVec 32) = x <<< 8 := fun _ => rfl
  have s16 : ∀ x : BitVec 32, x <<< (16 : BitVec 32) = x <<< 16 := fun _ => rfl
  have s24 : ∀ x : BitVec 32, x <<< (24 : BitVec 32) = x <<< 24 := fun _ => rfl
  simp only [s8, s16, s24, BitVec.shiftLeft_or_distrib, ← BitVec.shiftLeft_add]
  have z : UInt32.toBitVec 0 = 0#32 := rfl
  rw [z]
  simp
theorem rwTo_four (s : List UInt8) (hs : s.length = 64) : ∀ j, j ≤ 16 → rwTo s (4 * j) = upto 16 (wordsF s) 0 j := by
  intro j
  induction j with
  | zero => intro _; rw [upto_zero]; rfl
  | succ j ih =>
    intro hj
    have hj' : j < 16 := by omega
    have e0 := ih (by omega)
    have d0 : (4 * j) / 4 = j := by omega
    have d1 : (4 * j + 1) / 4 = j := by omega
    have d2 : (4 * j + 2) / 4 = j := by omega
    have d3 : (4 * j + 3) / 4 = j := by omega
    have g0 : gt (upto 16 (wordsF s) 0 j) j = 0 := by
      rw [gt_eq _ _ (by simpa using hj')]
      simp [upto]
    have step : ∀ k (u : List UInt32) (x : UInt32), u.length = 16 → rwTo s k = u.set j x → k / 4 = j → rwTo s (k + 1) = u.set j (x <<< (UInt32.ofNat 8) ||| (gt s k).toUInt32) := by
      intro k u x hu h hk
      rw [rwTo, hk, h, List.set_set, gt_set, if_pos ⟨rfl, by omega⟩]
    have f0 : rwTo s (4 * j) = (upto 16 (wordsF s) 0 j).set j 0 := by
      rw [e0]
      apply ext_gt (by simp)
      intro m hm
      rw [gt_set]
      split
      · rename_i h; rw [← h.1, g0]
      · rfl
    have f1 := step _ _ _ (by simp) f0 d0
    have f2 := step _ _ _ (by simp) f1 d1
    have f3 := step _ _ _ (by simp) f2 d2
    have f4 := step _ _ _ (by simp) f3 d3
    have hd : ∀ m, m < 4 → gt ((s.drop (4 * j)).take 4) m = gt s (4 * j + m) := by
      intro m hm
      rw [gt_eq _ _ (by simp; omega), gt_eq _ _ (by omega)]
      simp
    have hw : wordsF s j = (((gt s (4 * j)).toUInt32 <<< 24 ||| (gt s (4 * j + 1)).toUInt32 <<< 16) ||| (gt s (4 * j + 2)).toUInt32 <<< 8) ||| (gt s (4 * j + 3)).toUInt32 := by
      simp only [wordsF, word4]
      rw [hd 0 (by omega), hd 1 (by omega), hd 2 (by omega), hd 3 (by omega), Nat.add_zero]
    rw [show 4 * (j + 1) = 4 * j + 3 + 1 from by omega, f4, ← upto_set _ _ _ _ hj', hw, four_words]
theorem rwTo_full (s : List UInt8) (hs : s.length = 64) : rwTo s 64 = wordsL s := by
  rw [show 64 = 4 * 16 from rfl, rwTo_four s hs 16 (Nat.le_refl _), upto_full]; rfl
def roF (ws : List UInt32) (i : Nat) : UInt8 := (gt ws (i / 4) >>> (UInt32.ofNat (24 - 8 * (i % 4)))).toUInt8
theorem flat_get {α : Type} [Inhabited α] (c : Nat) (hc : 0 < c) : ∀ (ls : List (List α)), (∀ l ∈ ls, l.length = c) → ∀ i, i < c * ls.length → gt ls.flatten i = gt (gt ls (i / c)) (i % c) := by
  intro ls
  induction ls with
  | nil => intro _ i h; simp at h
  | cons l ls ih =>
    intro h i hi
    have h0 := h l (by simp)
    have hfl := flat_len c ls (fun m hm => h m (by simp [hm]))
    simp only [List.length_cons, Nat.mul_add, Nat.mul_one] at hi
    by_cases hlt : i < c
    · have e1 : i / c = 0 := Nat.div_eq_of_lt hlt
      have e2 : i % c = i := Nat.mod_eq_of_lt hlt
      rw [e1, e2]
      rw [gt_eq _ _ (by simp [hfl]; omega), gt_eq (l :: ls) 0 (by simp), gt_eq _ _ (by simp [h0, hlt])]
      simp [List.getElem_append_left, h0, hlt]
    · have e1 : i / c = (i - c) / c + 1 := by
        have : i = (i - c) + c := by omega
        rw [this, Nat.add_div_right _ hc]; simp
      have e2 : i % c = (i - c) % c := by
        have : i = (i - c) + c := by omega
        rw [this, Nat.add_mod_right]; simp
      have ih' := ih (fun m hm => h m (by simp [hm])) (i - c) (by omega)
      have g1 : gt (l :: ls).flatten i = gt ls.flatten (i - c) := by
        rw [gt_eq _ _ (by simp [hfl]; omega), gt_eq _ _ (by rw [hfl]; omega)]
        simp [List.getElem_append_right, h0, Nat.le_of_not_lt hlt]
      have g2 : gt (l :: ls) ((i - c) / c + 1) = gt ls ((i - c) / c) := by simp [gt]
      rw [g1, ih', e1, e2, g2]
theorem ro_full (ws : List UInt32) : (List.range 64).map (roF ws) = stateL ws := by
  have hm : ∀ l ∈ (List.range 16).map fun j => octs (gt ws j), l.length = 4 := by
    intro l hl; obtain ⟨j, _, rfl⟩ := List.mem_map.1 hl; rfl
  apply ext_gt (by simp)
  intro i hi
  simp at hi
  unfold stateL
  rw [flat_get 4 (by omega) _ hm i (by simpa using hi)]
  rw [gt_eq ((List.range 64).map (roF ws)) i (by simpa using hi), gt_eq ((List.range 16).map fun j => octs (gt ws j)) (i / 4) (by simp; omega)]
  simp only [List.getElem_map, List.getElem_range, roF]
  have h4 : i % 4 < 4 := by omega
  rcases (by omega : i % 4 = 0 ∨ i % 4 = 1 ∨ i % 4 = 2 ∨ i % 4 = 3) with h | h | h | h <;> rw [h]
  · rfl
  · rfl
  · rfl
  · have : ∀ x : UInt32, (x >>> (UInt32.ofNat (24 - 8 * 3))).toUInt8 = x.toUInt8 := by
      intro x
      have : UInt32.ofNat (24 - 8 * 3) = 0 := rfl
      rw [this]; simp
    rw [this]
    rfl
def rTurnW (w : List UInt32) (r i : Nat) : UInt32 := rotl (gt w ((i + 1 + r) % 16)) (5 + i) ^^^ (2654435769 * UInt32.ofNat (16 * r + i + 1))
theorem rTurnW_eq (w : List UInt32) (r i : Nat) : rTurnW w r i = turnW w r i := by
  unfold rTurnW turnW
  congr 1
  rw [UInt64.toUInt32_mul]
  congr 1
  apply UInt32.toNat_inj.1
  rw [UInt64.toNat_toUInt32, UInt64.toNat_ofNat', UInt32.toNat_ofNat']
  omega
end Go.Kw
namespace Go.Kw
/-! ### Words as numbers -/
theorem octs_nat (x : UInt32) : (octs x).map UInt8.toNat = [x.toNat / 16777216 % 256, x.toNat / 65536 % 256, x.toNat / 256 % 256, x.toNat % 256] := by
  have e24 : (UInt32.toNat 24 % 32) = 24 := rfl
  have e16 : (UInt32.toNat 16 % 32) = 16 := rfl
  have e8 : (UInt32.toNat 8 % 32) = 8 := rfl
  simp only [octs, List.map_cons, List.map_nil, UInt32.toNat_toUInt8, UInt32.toNat_shiftRight, e24, e16, e8, Nat.shiftRight_eq_div_pow]
end Go.Kw
end
