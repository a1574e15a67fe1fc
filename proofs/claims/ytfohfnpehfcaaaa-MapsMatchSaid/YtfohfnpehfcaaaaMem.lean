/- The operations on memory, an operation a lemma. No condition. -/
import Derived.Test.YtfohfnpehfcaaaaHeap
import Derived.Laws.IdiomCopy
namespace Go.Kw
set_option linter.unusedVariables false
set_option linter.unusedSimpArgs false

section
variable {P : Program} {ops : Array Oper} {Q : Exit → Act → World → Prop} {n : Nat} {e : Env} {w w' : World} {rest : List Oper} {dst : Option Tmp} {op : Op} {ty : TypeId} {pos : String} {aft : Array Edge} {g : Option (Nat × Bool)} {v : Value}

theorem wl_exv {R : Value → World → Prop} (hr : ∃ v w', (execOp (ev n e) ⟨dst, op, ty, pos, aft, g⟩).run P w = .ok (.value v) w' ∧ R v w') (hg : wantE ops n e g = true)
    (h : ∀ v w', R v w' → WL P ops Q rest (act n (putE dst v e)) w') : WL P ops Q (⟨dst, op, ty, pos, aft, g⟩ :: rest) (act n e) w := by
  obtain ⟨v, w', hr, hR⟩ := hr
  exact wl_val hr hg (h v w' hR)

theorem wl_exs {R : World → Prop} (hr : ∃ w', (execOp (ev n e) ⟨none, op, ty, pos, aft, g⟩).run P w = .ok .skip w' ∧ R w') (hg : wantE ops n e g = true)
    (h : ∀ w', R w' → WL P ops Q rest (act n e) w') : WL P ops Q (⟨none, op, ty, pos, aft, g⟩ :: rest) (act n e) w := by
  obtain ⟨w', hr, hR⟩ := hr
  exact wl_skip hr hg (h w' hR)

/-- A test, parted. -/
theorem wl_dec {p : Prop} [Decidable p] (hr : (execOp (ev n e) ⟨dst, op, ty, pos, aft, g⟩).run P w = .ok (.value (.bool (decide p))) w) (hg : wantE ops n e g = true)
    (h1 : p → WL P ops Q rest (act n (putE dst (.bool true) e)) w) (h2 : ¬ p → WL P ops Q rest (act n (putE dst (.bool false) e)) w) : WL P ops Q (⟨dst, op, ty, pos, aft, g⟩ :: rest) (act n e) w := by
  by_cases hp : p
  · exact wl_val (by rw [hr, decide_eq_true hp]) hg (h1 hp)
  · exact wl_val (by rw [hr, decide_eq_false hp]) hg (h2 hp)
theorem wl_dec_t {p : Prop} [Decidable p] (hr : (execOp (ev n e) ⟨dst, op, ty, pos, aft, g⟩).run P w = .ok (.value (.bool (decide p))) w) (hg : wantE ops n e g = true) (hp : p)
    (h1 : WL P ops Q rest (act n (putE dst (.bool true) e)) w) : WL P ops Q (⟨dst, op, ty, pos, aft, g⟩ :: rest) (act n e) w :=
  wl_val (by rw [hr, decide_eq_true hp]) hg h1
theorem wl_dec_f {p : Prop} [Decidable p] (hr : (execOp (ev n e) ⟨dst, op, ty, pos, aft, g⟩).run P w = .ok (.value (.bool (decide p))) w) (hg : wantE ops n e g = true) (hp : ¬ p)
    (h1 : WL P ops Q rest (act n (putE dst (.bool false) e)) w) : WL P ops Q (⟨dst, op, ty, pos, aft, g⟩ :: rest) (act n e) w :=
  wl_val (by rw [hr, decide_eq_false hp]) hg h1
end

/-- A function with a body. -/
def FnOk (P : Program) (f : FuncId) : Prop := ∃ fn, P.funcs[f]? = some fn ∧ (fn.name == "runtime.NumGoroutine") = false ∧ fn.body.isNone = false

section
variable {P : Program} {ρ : Operand → Value} {w w0 : World} {M : List Nat} {L l1 l2 : List Item} {dst : Option Tmp} {ty : TypeId} {pos : String} {aft : Array Edge} {g : Option (Nat × Bool)} {x y z : Operand} {T T2 E : TypeId} {v : Value} {k : IntKind}
  {d dE : TypeDesc} {sz bts b o : Nat} {zv : Value} {a : Option Addr} {cs C : List Value}

theorem r_call {f : FuncId} {args : Array Operand} {tys : Array TypeId} {vs : List Value} (hf : FnOk P f) (ha : args.toList.map ρ = vs) (hρ : ρ (.func f) = .func (.func f) #[] #[]) :
    (execOp ρ ⟨dst, .call { callee := .value (.func f), args := args, argTypes := tys }, ty, pos, aft, g⟩).run P w = .ok (.enter f vs.toArray) w := by
  obtain ⟨fn, h1, h2, h3⟩ := hf
  have ha' : args.map ρ = vs.toArray := by
    apply Array.ext'
    simpa using ha
  have h2' : ¬ fn.name = "runtime.NumGoroutine" := by intro h; simp [h] at h2
  have h3' : ¬ fn.body = none := by intro h; simp [h] at h3
  simp [execOp, resolve, hρ, Deferred.ofValue, invoke, callFunc, program, Sem.run, h1, h2', h3', ha']

theorem run_isAgg (h : P.underlying T = some d) : (isAgg T).run P w = .ok (aggD d) w := by
  unfold isAgg
  rw [Sem.run_bind, run_underlying h w]
  cases d <;> simp [aggD]

theorem run_sizeOf (h : TI P T d sz bts zv) : (sizeOf T).run P w = .ok sz w := by
  obtain ⟨i, hi, h1, h2, h3⟩ := h.info
  simp [sizeOf, typeInfo, program, Sem.run, hi, h1]

theorem run_loadVar_at (h : TI P T d cs.length bts zv) (hd : aggD d = true) (hc : At w b o cs) : (loadVar T ⟨b, o, none⟩).run P w = .ok (.agg cs.toArray) w := by
  have hl := run_loadCells_list (P := P) w ⟨b, o, none⟩ cs (fun j v hv => by rw [add_lit]; exact hc j v hv)
  simp [loadVar, Sem.run_bind, run_isAgg h.und, run_sizeOf h, hd, hl]

theorem run_loadVar_1 (h : P.underlying T = some d) (hd : aggD d = false) (hc : w.cell? ⟨b, o, none⟩ = some v) : (loadVar T ⟨b, o, none⟩).run P w = .ok v w := by
  simp [loadVar, Sem.run_bind, run_isAgg h, hd, hc]

theorem r_load1 (h : P.underlying T = some d) (hd : aggD d = false) (hx : ρ x = pt b o) (hc : w.cell? ⟨b, o, none⟩ = some v) : (execOp ρ ⟨dst, .load T x, ty, pos, aft, g⟩).run P w = .ok (.value v) w := by
  simp [execOp, hx, Instr.loadAt, Instr.sureAddr, run_loadVar_1 h hd hc]
/-- .. from a block of which all is known. -/
theorem r_loadB1 {fr : Nat × Nat} (h : P.underlying T = some d) (hd : aggD d = false) (hx : ρ x = pt b o) (hb : w.heap[b]? = some (.cells C.toArray E fr)) (hv : C[o]? = some v) : (execOp ρ ⟨dst, .load T x, ty, pos, aft, g⟩).run P w = .ok (.value v) w :=
  r_load1 h hd hx (by rw [cell_of_row w b o C.toArray E fr hb]; simpa using hv)
theorem r_loadA (h : TI P T d cs.length bts zv) (hd : aggD d = true) (hx : ρ x = pt b o) (hc : At w b o cs) : (execOp ρ ⟨dst, .load T x, ty, pos, aft, g⟩).run P w = .ok (.value (.agg cs.toArray)) w := by
  simp [execOp, hx, Instr.loadAt, Instr.sureAddr, run_loadVar_at h hd hc]
/-- The whole of a block. -/
theorem r_loadB {fr : Nat × Nat} (h : TI P T d sz bts zv) (hd : aggD d = true) (hx : ρ x = pt b 0) (hb : w.heap[b]? = some (.cells C.toArray E fr)) (hl : C.length = sz) : (execOp ρ ⟨dst, .load T x, ty, pos, aft, g⟩).run P w = .ok (.value (.agg C.toArray)) w := by
  subst hl
  exact r_loadA h hd hx (at_all hb)
/-- A part of a block. -/
theorem r_loadBP {fr : Nat × Nat} (h : TI P T d sz bts zv) (hd : aggD d = true) (hx : ρ x = pt b o) (hb : w.heap[b]? = some (.cells C.toArray E fr)) (hl : o + sz ≤ C.length) : (execOp ρ ⟨dst, .load T x, ty, pos, aft, g⟩).run P w = .ok (.value (.agg ((C.drop o).take sz).toArray)) w := by
  have e : ((C.drop o).take sz).length = sz := by simp; omega
  exact r_loadA (by rw [e]; exact h) hd hx (at_part hb)

theorem Row.some_of (h : Row w a cs) (hn : 0 < cs.length) : ∃ b off, a = some ⟨b, off, none⟩ ∧ At w b off cs := by
  rcases h with h | h
  · subst h; simp at hn
  · exact h

/-- x[i] of a slice: its address. -/
theorem r_ixS {len cap m : Nat} (h : P.underlying T = some (.slice E)) (hE : TI P E dE sz bts zv) (hx : ρ x = .slice a len cap) (hy : ρ y = .int k (m : Int)) (hr : Row w a cs) (hm : m < len) (hn : m * sz < cs.length) :
    (execOp ρ ⟨dst, .indexAddr T x y, ty, pos, aft, g⟩).run P w = .ok (.value (.pointer (a.map (·.add (m * sz))))) w := by
  obtain ⟨b, off, ha, _⟩ := hr.some_of (by omega)
  subst ha
  have h0 : (0 : Int) ≤ (m : Int) ∧ (m : Int) < (len : Int) := by omega
  simp [execOp, hx, hy, Instr.indexAt, asIntOf, run_underlying h, run_sizeOf hE, hm]
theorem r_loadS1 {j : Nat} (h : P.underlying T = some d) (hd : aggD d = false) (hx : ρ x = .pointer (a.map (·.add j))) (hr : Row w a cs) (hv : cs[j]? = some v) : (execOp ρ ⟨dst, .load T x, ty, pos, aft, g⟩).run P w = .ok (.value v) w := by
  obtain ⟨b, off, ha, hc⟩ := hr.some_of (by have := (List.getElem?_eq_some_iff.1 hv).1; omega)
  subst ha
  exact r_load1 h hd (by rw [hx]; simp [add_lit]) (hc j v hv)
theorem r_loadSA {j : Nat} (h : TI P T d sz bts zv) (hd : aggD d = true) (hx : ρ x = .pointer (a.map (·.add j))) (hr : Row w a cs) (hz : 0 < sz) (hn : j + sz ≤ cs.length) : (execOp ρ ⟨dst, .load T x, ty, pos, aft, g⟩).run P w = .ok (.value (.agg ((cs.drop j).take sz).toArray)) w := by
  obtain ⟨b, off, ha, hc⟩ := hr.some_of (by omega)
  subst ha
  have e : ((cs.drop j).take sz).length = sz := by simp; omega
  refine r_loadA (b := b) (o := off + j) (by rw [e]; exact h) hd (by rw [hx]; simp [add_lit]) ?_
  exact hc.part j fun i v hv => by
    rw [List.getElem?_take] at hv
    split at hv
    · simpa using hv
    · cases hv
/-- Through the pointer of a slice's beginning. -/
theorem r_loadPA (h : TI P T d sz bts zv) (hd : aggD d = true) (hx : ρ x = .pointer a) (hr : Row w a cs) (hz : 0 < sz) (hn : sz ≤ cs.length) : (execOp ρ ⟨dst, .load T x, ty, pos, aft, g⟩).run P w = .ok (.value (.agg (cs.take sz).toArray)) w := by
  obtain ⟨b, off, ha, hc⟩ := hr.some_of (by omega)
  subst ha
  have e : (cs.take sz).length = sz := by simp; omega
  exact r_loadA (by rw [e]; exact h) hd hx hc.take

/-- a[i] of an array in memory: its address. -/
theorem r_ixA {m len o' : Nat} (h : P.underlying T = some (.array len E)) (hE : TI P E dE sz bts zv) (hx : ρ x = pt b o) (hy : ρ y = .int k (m : Int)) (hm : m < len) (ho : o + m * sz = o') :
    (execOp ρ ⟨dst, .indexAddr T x y, ty, pos, aft, g⟩).run P w = .ok (.value (pt b o')) w := by
  subst ho
  simp [execOp, hx, hy, Instr.indexAt, Instr.sureAddr, asIntOf, run_underlying h, run_sizeOf hE, hm, add_lit]
/-- a[i] of an array value. -/
theorem r_index1 {m len : Nat} (h : P.underlying T = some (.array len E)) (hE : TI P E dE 1 bts zv) (hd : aggD dE = false) (hx : ρ x = .agg cs.toArray) (hy : ρ y = .int k (m : Int)) (hm : m < len) (hv : cs[m]? = some v) :
    (execOp ρ ⟨dst, .index T x y, ty, pos, aft, g⟩).run P w = .ok (.value v) w := by
  simp [execOp, hx, hy, Instr.index, asIntOf, run_underlying h, run_sizeOf hE, hm, part, run_isAgg hE.und, hd, hv]
theorem r_indexStr {m : Nat} {s : ByteArray} {c : UInt8} (h : P.underlying T = some .string) (hx : ρ x = .string s) (hy : ρ y = .int k (m : Int)) (hv : s.data.toList[m]? = some c) :
    (execOp ρ ⟨dst, .index T x y, ty, pos, aft, g⟩).run P w = .ok (.value (b8 c)) w := by
  have hv' : s[m]? = some c := by
    have h1 : m < s.data.toList.length := (List.getElem?_eq_some_iff.1 hv).1
    have h2 : s.data.toList[m] = c := (List.getElem?_eq_some_iff.1 hv).2
    have h3 : m < s.data.size := by simpa using h1
    rw [getElem?_pos s m h3, ← h2]
    rfl
  simp [execOp, hx, hy, Instr.index, asIntOf, run_underlying h, hv']

/-- p.f: its address. -/
def FA (P : Program) (S : TypeId) (i off : Nat) : Prop := ∃ fs f, P.underlying S = some (.struct fs) ∧ fs[i]? = some f ∧ f.offset = off ∧ ∃ t, P.info? f.type = some t ∧ t.size ≠ 0
theorem r_field {i off : Nat} (h : FA P T i off) (hx : ρ x = pt b o) : (execOp ρ ⟨dst, .fieldAddr T x i, ty, pos, aft, g⟩).run P w = .ok (.value (pt b (o + off))) w := by
  obtain ⟨fs, f, h1, h2, h3, t, h4, h5⟩ := h
  subst h3
  simp [execOp, hx, Instr.fieldAt, Instr.sureAddr, run_underlying h1, h2, fieldPlace, sizeOf, typeInfo, program, Sem.run, h4, h5, add_lit]
/-- A field of a struct value. -/
def FV (P : Program) (S : TypeId) (i off : Nat) (t : TypeId) : Prop := ∃ fs f, P.underlying S = some (.struct fs) ∧ fs[i]? = some f ∧ f.offset = off ∧ f.type = t
theorem r_fieldv1 {i off : Nat} {t : TypeId} (h : FV P T i off t) (ht : P.underlying t = some d) (hd : aggD d = false) (hx : ρ x = .agg cs.toArray) (hv : cs[off]? = some v) : (execOp ρ ⟨dst, .field T x i, ty, pos, aft, g⟩).run P w = .ok (.value v) w := by
  obtain ⟨fs, f, h1, h2, h3, h4⟩ := h
  subst h3; subst h4
  simp [execOp, hx, Instr.field, run_underlying h1, h2, asAgg, part, run_isAgg ht, hd, hv]
theorem r_fieldvA {i off : Nat} {t : TypeId} (h : FV P T i off t) (ht : TI P t d sz bts zv) (hd : aggD d = true) (hx : ρ x = .agg cs.toArray) : (execOp ρ ⟨dst, .field T x i, ty, pos, aft, g⟩).run P w = .ok (.value (.agg ((cs.drop off).take sz).toArray)) w := by
  obtain ⟨fs, f, h1, h2, h3, h4⟩ := h
  subst h3; subst h4
  have e : cs.toArray.extract f.offset (f.offset + sz) = ((cs.drop f.offset).take sz).toArray := by
    apply Array.ext'
    simp [List.drop_take]
  simp only [execOp, hx, Instr.field, Sem.run_bind, run_underlying h1, Result.andThen_ok, h2, asAgg, Sem.run_pure, part, run_isAgg ht.und, hd, if_true, run_sizeOf ht, e]

theorem r_nilCheck {p : Addr} (hx : ρ x = .pointer (some p)) : (execOp ρ ⟨dst, .nilCheck x, ty, pos, aft, g⟩).run P w = .ok (.value (.pointer (some p))) w := by
  simp [execOp, hx]

/-! ### Slicing -/
theorem bound_ok {m y : Nat} {code : BoundsCode} (h : m ≤ y) : (Instr.sliceBound (.int k (m : Int)) y code).run P w = .ok m w := by
  simp [Instr.sliceBound, asIntOf, h]
theorem sub_zero {cap : Nat} : sub a cap 0 sz = a := by
  unfold sub
  split
  · rfl
  · cases a with
    | none => rfl
    | some p => simp [Addr.add]

theorem r_sl_lh {len cap l h : Nat} (hT : P.underlying T = some (.slice E)) (hE : TI P E dE sz bts zv) (hx : ρ x = .slice a len cap) (hy : ρ y = .int k (l : Int)) {k2 : IntKind} (hz : ρ z = .int k2 (h : Int)) (hlh : l ≤ h) (hc : h ≤ cap) :
    (execOp ρ ⟨dst, .slice T x (some y) (some z) none, ty, pos, aft, g⟩).run P w = .ok (.value (.slice (sub a cap l sz) (h - l) (cap - l))) w := by
  simp [execOp, hx, hy, hz, Instr.sliceAt, Instr.slice, Instr.sliceBounds, run_underlying hT, run_sizeOf hE, bound_ok hc, bound_ok hlh, sub]
theorem r_sl_l {len cap l : Nat} (hT : P.underlying T = some (.slice E)) (hE : TI P E dE sz bts zv) (hx : ρ x = .slice a len cap) (hy : ρ y = .int k (l : Int)) (hlh : l ≤ len) :
    (execOp ρ ⟨dst, .slice T x (some y) none none, ty, pos, aft, g⟩).run P w = .ok (.value (.slice (sub a cap l sz) (len - l) (cap - l))) w := by
  simp [execOp, hx, hy, Instr.sliceAt, Instr.slice, Instr.sliceBounds, run_underlying hT, run_sizeOf hE, bound_ok hlh, sub]
theorem r_sl_h {len cap h : Nat} (hT : P.underlying T = some (.slice E)) (hE : TI P E dE sz bts zv) (hx : ρ x = .slice a len cap) (hz : ρ z = .int k (h : Int)) (hc : h ≤ cap) :
    (execOp ρ ⟨dst, .slice T x none (some z) none, ty, pos, aft, g⟩).run P w = .ok (.value (.slice a h cap)) w := by
  have e := sub_zero (a := a) (cap := cap) (sz := sz)
  simp only [sub] at e
  simp [execOp, hx, hz, Instr.sliceAt, Instr.slice, Instr.sliceBounds, run_underlying hT, run_sizeOf hE, bound_ok hc]
  simpa using e
theorem r_sl_lhm {len cap l h m : Nat} {u : Operand} (hT : P.underlying T = some (.slice E)) (hE : TI P E dE sz bts zv) (hx : ρ x = .slice a len cap) (hy : ρ y = .int k (l : Int)) {k2 k3 : IntKind} (hz : ρ z = .int k2 (h : Int)) (hu : ρ u = .int k3 (m : Int)) (hlh : l ≤ h) (hhm : h ≤ m) (hc : m ≤ cap) :
    (execOp ρ ⟨dst, .slice T x (some y) (some z) (some u), ty, pos, aft, g⟩).run P w = .ok (.value (.slice (sub a m l sz) (h - l) (m - l))) w := by
  simp [execOp, hx, hy, hz, hu, Instr.sliceAt, Instr.slice, Instr.sliceBounds, run_underlying hT, run_sizeOf hE, bound_ok hc, bound_ok hhm, bound_ok hlh, sub]

theorem r_sa_0 {len : Nat} (hT : P.underlying T = some (.array len E)) (hE : TI P E dE sz bts zv) (hx : ρ x = pt b o) :
    (execOp ρ ⟨dst, .slice T x none none none, ty, pos, aft, g⟩).run P w = .ok (.value (.slice (some ⟨b, o, none⟩) len len)) w := by
  simp [execOp, hx, Instr.sliceAt, Instr.sureAddr, Instr.sliceBounds, run_underlying hT, run_sizeOf hE, add_lit]
theorem r_sa_l {len l : Nat} (hT : P.underlying T = some (.array len E)) (hE : TI P E dE sz bts zv) (hx : ρ x = pt b o) (hy : ρ y = .int k (l : Int)) (hlh : l < len) :
    (execOp ρ ⟨dst, .slice T x (some y) none none, ty, pos, aft, g⟩).run P w = .ok (.value (.slice (some ⟨b, o + l * sz, none⟩) (len - l) (len - l))) w := by
  have hne : ¬ len = l := by omega
  simp [execOp, hx, hy, Instr.sliceAt, Instr.sureAddr, Instr.sliceBounds, run_underlying hT, run_sizeOf hE, add_lit, bound_ok (Nat.le_of_lt hlh), hne]
theorem r_sa_lh {len l h : Nat} (hT : P.underlying T = some (.array len E)) (hE : TI P E dE sz bts zv) (hx : ρ x = pt b o) (hy : ρ y = .int k (l : Int)) {k2 : IntKind} (hz : ρ z = .int k2 (h : Int)) (hlh : l ≤ h) (hl : l < len) (hc : h ≤ len) :
    (execOp ρ ⟨dst, .slice T x (some y) (some z) none, ty, pos, aft, g⟩).run P w = .ok (.value (.slice (some ⟨b, o + l * sz, none⟩) (h - l) (len - l))) w := by
  have hne : ¬ len = l := by omega
  simp [execOp, hx, hy, hz, Instr.sliceAt, Instr.sureAddr, Instr.sliceBounds, run_underlying hT, run_sizeOf hE, add_lit, bound_ok hlh, bound_ok hc, hne]
theorem r_sa_h {len h : Nat} (hT : P.underlying T = some (.array len E)) (hE : TI P E dE sz bts zv) (hx : ρ x = pt b o) (hz : ρ z = .int k (h : Int)) (hc : h ≤ len) :
    (execOp ρ ⟨dst, .slice T x none (some z) none, ty, pos, aft, g⟩).run P w = .ok (.value (.slice (some ⟨b, o, none⟩) h len)) w := by
  simp [execOp, hx, hz, Instr.sliceAt, Instr.sureAddr, Instr.sliceBounds, run_underlying hT, run_sizeOf hE, add_lit, bound_ok hc]
theorem r_s2a {len cap m : Nat} (hT : P.underlying T = some (.array m E)) (hx : ρ x = .slice a len cap) (hl : m ≤ len) :
    (execOp ρ ⟨dst, .sliceToArrayPointer T x, ty, pos, aft, g⟩).run P w = .ok (.value (.pointer a)) w := by
  have : ¬ len < m := by omega
  simp [execOp, hx, Instr.arrayAt, run_underlying hT, this]

theorem r_len {len cap : Nat} {tys : Array TypeId} (ht : tys[0]? = some T) (hT : P.underlying T = some (.slice E)) (hx : ρ x = .slice a len cap) (args : Array Operand) (ha : args = #[x]) :
    (execOp ρ ⟨dst, .call { callee := .builtin .len, args := args, argTypes := tys }, ty, pos, aft, g⟩).run P w = .ok (.value (vi len)) w := by
  subst ha
  simp [execOp, resolve, invoke, builtin, Builtin.len_, ht, hx, run_underlying hT, goInt]
theorem r_lenStr {s : ByteArray} {tys : Array TypeId} (ht : tys[0]? = some T) (hT : P.underlying T = some .string) (hx : ρ x = .string s) (args : Array Operand) (ha : args = #[x]) :
    (execOp ρ ⟨dst, .call { callee := .builtin .len, args := args, argTypes := tys }, ty, pos, aft, g⟩).run P w = .ok (.value (vi s.size)) w := by
  subst ha
  simp [execOp, resolve, invoke, builtin, Builtin.len_, ht, hx, run_underlying hT, goInt]
theorem r_cap {len cap : Nat} {tys : Array TypeId} (ht : tys[0]? = some T) (hT : P.underlying T = some (.slice E)) (hx : ρ x = .slice a len cap) (args : Array Operand) (ha : args = #[x]) :
    (execOp ρ ⟨dst, .call { callee := .builtin .cap, args := args, argTypes := tys }, ty, pos, aft, g⟩).run P w = .ok (.value (vi cap)) w := by
  subst ha
  simp [execOp, resolve, invoke, builtin, Builtin.cap_, ht, hx, run_underlying hT, goInt]
theorem r_min2 {a b : Int} {tys : Array TypeId} (hx : ρ x = .int k a) (hy : ρ y = .int k b) (args : Array Operand) (ha : args = #[x, y]) :
    (execOp ρ ⟨dst, .call { callee := .builtin .min, args := args, argTypes := tys }, ty, pos, aft, g⟩).run P w = .ok (.value (.int k (min a b))) w := by
  subst ha
  have : (if b < a then b else a) = min a b := by rw [Int.min_def]; split <;> split <;> omega
  simp [execOp, resolve, invoke, builtin, Builtin.min_, Builtin.min2, hx, hy, this]
theorem r_max2 {a b : Int} {tys : Array TypeId} (hx : ρ x = .int k a) (hy : ρ y = .int k b) (args : Array Operand) (ha : args = #[x, y]) :
    (execOp ρ ⟨dst, .call { callee := .builtin .max, args := args, argTypes := tys }, ty, pos, aft, g⟩).run P w = .ok (.value (.int k (max a b))) w := by
  subst ha
  have : (if b > a then b else a) = max a b := by rw [Int.max_def]; split <;> split <;> omega
  simp [execOp, resolve, invoke, builtin, Builtin.max_, Builtin.max2, hx, hy, this]

/-! ### Making and writing -/
theorem x_new (hS : St w0 M w L) (o : Obj) : St w0 M (w.alloc o) (.blk w.heap.size o :: L) := hS.alloc o

theorem x_alloc (hS : St w0 M w L) (h : TI P T d sz bts zv) (hz : zv.cells = C.toArray) :
    ∃ v w', (execOp ρ ⟨dst, .alloc T, ty, pos, aft, g⟩).run P w = .ok (.value v) w' ∧ ∃ b, v = pt b 0 ∧ St w0 M w' (.blk b (cl C T) :: L) := by
  obtain ⟨i, hi, h1, h2, h3⟩ := h.info
  refine ⟨pt w.heap.size 0, w.alloc (cl C T), ?_, w.heap.size, rfl, hS.alloc _⟩
  simp [execOp, Instr.alloc, zeroValue, typeInfo, program, Sem.run, hi, h3, newVar, newRow, hz]
theorem x_box (hS : St w0 M w L) (hx : ρ x = v) (hz : v.cells = C.toArray) :
    ∃ u w', (execOp ρ ⟨dst, .box T x, ty, pos, aft, g⟩).run P w = .ok (.value u) w' ∧ ∃ b, u = pt b 0 ∧ St w0 M w' (.blk b (cl C T) :: L) := by
  refine ⟨pt w.heap.size 0, w.alloc (cl C T), ?_, w.heap.size, rfl, hS.alloc _⟩
  simp [execOp, Instr.box, hx, newVar, newRow, hz]

/-- cs laid over C from place o on. -/
theorem run_storeVar (h : TI P T d sz bts zv) (hc : v.cells = cs.toArray) (hn : cs.length = sz) (h1 : One cs) (hb : w.heap[b]? = some (cl C E)) (ho : o + cs.length ≤ C.length) :
    (storeVar T ⟨b, o, none⟩ v).run P w = .ok () (w.setRow b (splice C o cs).toArray) := by
  have hst := run_storeCells_at P b o E cs 0 C.toArray w hb (by simpa using ho) h1
  simp only [Nat.add_zero] at hst
  have e1 : v.cells.size = sz := by simp [hc, hn]
  have e2 : v.cells.toList = cs := by simp [hc]
  simp [storeVar, run_sizeOf h, e1, e2, hst, splice]

theorem put_at {C' : List Value} (hS : St w0 M w (l1 ++ .blk b (cl C E) :: l2)) : St w0 M (w.setRow b C'.toArray) (l1 ++ .blk b (cl C' E) :: l2) := by
  have hx := hS.has (.blk b (cl C E)) (by simp)
  refine hS.turnAt rfl rfl rfl (by simp) (fun k hk hne => setRow_other w b k _ (fun e => hne (by simp [Item.id, e]))) ?_ (fun k hk => .inl hk)
  exact ⟨setRow_heap w b _ _ E _ hx.1, hx.2⟩

theorem x_store (l1 : List Item) {l2 : List Item} (hS : St w0 M w (l1 ++ .blk b (cl C E) :: l2)) (h : TI P T d sz bts zv) (hx : ρ x = pt b o) (hy : ρ y = v) (hc : v.cells = cs.toArray) (hn : cs.length = sz) (h1 : One cs) (ho : o + cs.length ≤ C.length) {C' : List Value} (hC : splice C o cs = C') :
    ∃ w', (execOp ρ ⟨none, .store T x y, ty, pos, aft, g⟩).run P w = .ok .skip w' ∧ St w0 M w' (l1 ++ .blk b (cl C' E) :: l2) := by
  subst hC
  refine ⟨_, ?_, put_at hS⟩
  have hr := run_storeVar h hc hn h1 (hS.heap (b := b) (o := cl C E) (by simp)) ho
  simp [execOp, hx, hy, Instr.storeAt, Instr.sureAddr, hr]

theorem splice_all (C cs : List Value) (h : cs.length = C.length) : splice C 0 cs = cs := by
  simp [splice, h]
theorem splice_one (C : List Value) (o : Nat) (v : Value) (h : o < C.length) : splice C o [v] = C.set o v := by
  simp only [splice, List.length_singleton]
  rw [List.set_eq_take_append_cons_drop, if_pos h]
  rfl

/-- A variable of one cell. -/
theorem x_store1 (l1 : List Item) {l2 : List Item} (hS : St w0 M w (l1 ++ .blk b (cl C E) :: l2)) (h : TI P T d 1 bts zv) (hx : ρ x = pt b o) (hy : ρ y = v) (hv : v.oneCell' = true) (ho : o < C.length) :
    ∃ w', (execOp ρ ⟨none, .store T x y, ty, pos, aft, g⟩).run P w = .ok .skip w' ∧ St w0 M w' (l1 ++ .blk b (cl (C.set o v) E) :: l2) :=
  x_store l1 hS h hx hy (cs := [v]) (by cases v <;> simp_all [Value.cells, Value.oneCell']) rfl (one_cons hv one_nil) (by simp only [List.length_singleton]; omega) (splice_one C o v ho)
/-- A whole block. -/
theorem x_storeW (l1 : List Item) {l2 : List Item} (hS : St w0 M w (l1 ++ .blk b (cl C E) :: l2)) (h : TI P T d sz bts zv) (hx : ρ x = pt b 0) (hy : ρ y = .agg cs.toArray) (hn : cs.length = sz) (hC : C.length = sz) (h1 : One cs) :
    ∃ w', (execOp ρ ⟨none, .store T x y, ty, pos, aft, g⟩).run P w = .ok .skip w' ∧ St w0 M w' (l1 ++ .blk b (cl cs E) :: l2) :=
  x_store l1 hS h hx hy (cs := cs) rfl hn h1 (by omega) (splice_all C cs (by omega))

/-- make. -/
theorem x_make {l c : Nat} {k2 : IntKind} (hS : St w0 M w L) (hT : P.underlying T = some (.slice E)) (hE : TI P E dE sz bts zv) (hx : ρ x = .int k (l : Int)) (hy : ρ y = .int k2 (c : Int)) (hlc : l ≤ c) (hb : bts * c ≤ 281474976710656) (hc : c ≤ 9223372036854775807) {zs : List Value} (hz : madeCells zv.cells (c * sz) = zs.toArray) :
    ∃ v w', (execOp ρ ⟨dst, .makeSlice T x y, ty, pos, aft, g⟩).run P w = .ok (.value v) w' ∧ ∃ b, v = .slice (some ⟨b, 0, none⟩) l c ∧ St w0 M w' (.blk b (cl zs E) :: L) := by
  obtain ⟨i, hi, h1, h2, h3⟩ := hE.info
  subst h1; subst h2
  have hr := run_make (P := P) w T E i zv hT hi h3 k k2 l c (by omega) (by omega) (by rw [← Int.natCast_mul]; omega) (by omega)
  simp only [Int.toNat_natCast, hz] at hr
  refine ⟨_, _, ?_, w.heap.size, rfl, hS.alloc _⟩
  simp [execOp, hx, hy, hr]

/-- A copy of bytes (or of whatever has one cell) into a block. -/
theorem x_copy (l1 : List Item) {l2 : List Item} {dLen dCap sLen sCap : Nat} {dT sT : TypeId} (hS : St w0 M w (l1 ++ .blk b (cl C E) :: l2)) (hT : P.underlying dT = some (.slice T)) (hE : TI P T dE 1 bts zv)
    (hx : ρ x = .slice (some ⟨b, o, none⟩) dLen dCap) (hy : ρ y = .slice a sLen sCap) (hr : Row w a cs) (hn : cs.length = sLen) (hfit : o + min sLen dLen ≤ C.length) (h1 : One cs) (args : Array Operand) (ha : args = #[x, y]) :
    ∃ v w', (execOp ρ ⟨dst, .call { callee := .builtin .copy, args := args, argTypes := #[dT, sT] }, ty, pos, aft, g⟩).run P w = .ok (.value v) w' ∧ v = vi (min sLen dLen) ∧ St w0 M w' (l1 ++ .blk b (cl (splice C o (cs.take dLen)) E) :: l2) := by
  subst ha
  obtain ⟨i, hi, hs1, hs2, hs3⟩ := hE.info
  have hbk := hS.heap (b := b) (o := cl C E) (by simp)
  rcases hr with hr | ⟨b', off', ha, hc⟩
  · subst hr
    simp only [List.length_nil] at hn
    subst hn
    refine ⟨vi (min 0 dLen), w, ?_, rfl, ?_⟩
    · cases a with
      | none => simp [execOp, resolve, invoke, builtin, Builtin.copy_, hx, hy, run_underlying hT, Builtin.lenOf, Builtin.firstCells, sizeOf, typeInfo, program, Sem.run, hi, storeCells, goInt]
      | some p => simp [execOp, resolve, invoke, builtin, Builtin.copy_, hx, hy, run_underlying hT, Builtin.lenOf, Builtin.firstCells, loadCells, loadCellsFrom, sizeOf, typeInfo, program, Sem.run, hi, storeCells, goInt]
    · have e : splice C o ([].take dLen) = C := by simp [splice]
      rw [e]; exact hS
  · subst ha
    have hl : (cs.take dLen).length = Nat.min sLen dLen := by simp [hn, Nat.min_comm]
    have hrun := run_copy_row (P := P) w dT sT ty T b o dLen dCap ⟨b', off', none⟩ sLen sCap C.toArray E (cs.take dLen) hT (by simp [hi, hs1]) hbk hl
      (fun j u hu => by rw [add_lit]; exact hc.take j u hu) (by simp only [List.size_toArray, hl]; exact hfit) (one_take h1)
    refine ⟨goInt (cs.take dLen).length, w.setRow b (splice C o (cs.take dLen)).toArray, ?_, ?_, put_at (C' := splice C o (cs.take dLen)) hS⟩
    · simp only [execOp, resolve, hx, hy, List.map_toArray, List.map_cons, List.map_nil, invoke, builtin, Sem.run_bind, Sem.run_pure, Result.andThen_ok, hrun, splice, List.append_assoc]
    · simp [goInt, hl]
end
end Go.Kw
