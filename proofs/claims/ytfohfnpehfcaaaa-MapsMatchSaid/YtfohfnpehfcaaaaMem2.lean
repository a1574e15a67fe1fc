/- More operations: built values, equality of arrays, regions that draw their order. No condition. -/
import Derived.Test.YtfohfnpehfcaaaaMem
namespace Go.Kw
set_option linter.unusedVariables false
set_option linter.unusedSimpArgs false

/-- An element of a list, with a default. -/
def gt {α : Type} [Inhabited α] (l : List α) (i : Nat) : α := l.getD i default
theorem gt_eq {α : Type} [Inhabited α] (l : List α) (i : Nat) (h : i < l.length) : gt l i = l[i] := by simp [gt, h]
theorem get_gt {α : Type} [Inhabited α] (l : List α) (i : Nat) (h : i < l.length) : l[i]? = some (gt l i) := by simp [gt, h]
theorem map_gt {α : Type} [Inhabited α] (f : α → Value) (l : List α) (i : Nat) (h : i < l.length) : (l.map f)[i]? = some (f (gt l i)) := by simp [gt, h]
theorem gt_map {α β : Type} [Inhabited α] [Inhabited β] (f : α → β) (l : List α) (i : Nat) (h : i < l.length) : gt (l.map f) i = f (gt l i) := by simp [gt, h]
theorem gt_ofFn {α : Type} [Inhabited α] {n : Nat} (f : Fin n → α) (i : Nat) (h : i < n) : gt (List.ofFn f) i = f ⟨i, h⟩ := by simp [gt, h]
theorem ext_gt {α : Type} [Inhabited α] {l m : List α} (hl : l.length = m.length) (h : ∀ i, i < l.length → gt l i = gt m i) : l = m := by
  apply List.ext_getElem hl
  intro i h1 h2
  have := h i h1
  rwa [gt_eq l i h1, gt_eq m i h2] at this
theorem gt_set {α : Type} [Inhabited α] (l : List α) (i j : Nat) (v : α) : gt (l.set i v) j = if i = j ∧ j < l.length then v else gt l j := by
  simp only [gt, List.getD_eq_getElem?_getD, List.getElem?_set]
  by_cases h : i = j
  · subst h
    by_cases h2 : i < l.length <;> simp [h2]
  · simp [h]

section
variable {P : Program} {ρ : Operand → Value} {w w0 : World} {M : List Nat} {L l1 l2 : List Item} {dst : Option Tmp} {ty : TypeId} {pos : String} {aft : Array Edge} {g : Option (Nat × Bool)} {x y z : Operand} {T T2 E : TypeId} {v : Value} {k : IntKind}
  {d dE : TypeDesc} {sz bts b o : Nat} {zv : Value} {a : Option Addr} {cs C : List Value}

/-! ### built values -/
theorem fold_put (v : Array Value) : ∀ (l : List Value) (j : Nat) (pre mid post : List Value), mid.length = l.length → pre.length = o + j →
    (l.zipIdx j).foldl (fun (cs : Array Value) (x : Value × Nat) => cs.setIfInBounds (o + x.2) x.1) (pre ++ mid ++ post).toArray = (pre ++ l ++ post).toArray := by
  intro l
  induction l with
  | nil => intro j pre mid post hm hp; simp at hm; subst hm; simp
  | cons c l ih =>
    intro j pre mid post hm hp
    match mid, hm with
    | m :: mid, hm =>
      simp only [List.zipIdx_cons, List.foldl_cons]
      have e : (pre ++ (m :: mid) ++ post).toArray.setIfInBounds (o + j) c = ((pre ++ [c]) ++ mid ++ post).toArray := by
        simp only [List.setIfInBounds_toArray]
        congr 1
        rw [List.append_assoc, List.set_append_right _ _ (by omega)]
        simp [hp]
      rw [e, ih (j + 1) (pre ++ [c]) mid post (by simpa using hm) (by simp; omega)]
      simp

/-- Where the parts of a built value lie, one behind the other, the whole is they put together. -/
theorem fill_all (place : Nat → Option (Nat × Nat)) : ∀ (parts : List (Nat × Value)) (cells : List (List Value)) (pre rest : List Value),
    parts.length = cells.length → (∀ i, i < parts.length → ∃ j u, parts[i]? = some (j, u) ∧ u.cells = (cells.getD i []).toArray ∧ place j = some (pre.length + ((cells.take i).flatten).length, (cells.getD i []).length)) →
    rest.length = cells.flatten.length → Instr.fill place (pre ++ rest).toArray parts = some (pre ++ cells.flatten).toArray := by
  intro parts
  induction parts with
  | nil =>
    intro cells pre rest hl _ hr
    have : cells = [] := List.eq_nil_of_length_eq_zero (by simpa using hl.symm)
    subst this
    have : rest = [] := List.eq_nil_of_length_eq_zero (by simpa using hr)
    subst this
    simp [Instr.fill]
  | cons p parts ih =>
    intro cells pre rest hl hp hr
    match cells, hl with
    | c :: cells, hl =>
      obtain ⟨j, u, h1, h2, h3⟩ := hp 0 (by simp)
      simp at h1
      subst h1
      simp at h2 h3
      have hlen : c.length ≤ rest.length := by simp at hr; omega
      obtain ⟨mid, post, rfl, hmid⟩ : ∃ mid post, rest = mid ++ post ∧ mid.length = c.length := ⟨rest.take c.length, rest.drop c.length, by simp, by simp; omega⟩
      have hfold := fold_put (o := pre.length) #[] c 0 pre mid post (by omega) (by omega)
      simp only [Instr.fill, h3, h2]
      have n1 : ¬ (c.toArray.size ≠ c.length) := by simp
      have n2 : ¬ (pre.length + c.toArray.size > (pre ++ (mid ++ post)).toArray.size) := by simp; omega
      have hb : (c.toArray.size != c.length || decide (pre.length + c.toArray.size > (pre ++ (mid ++ post)).toArray.size)) = false := by
        simp; omega
      have hz : (c.toArray.zipIdx.foldl (fun (cs : Array Value) (x : Value × Nat) => cs.setIfInBounds (pre.length + x.2) x.1) (pre ++ (mid ++ post)).toArray) = (pre ++ c ++ post).toArray := by
        rw [← Array.foldl_toList, Array.toList_zipIdx, ← List.append_assoc]
        exact hfold
      have hi := ih cells (pre ++ c) post (by simpa using hl) (fun i hi => by
        obtain ⟨j', u', g1, g2, g3⟩ := hp (i + 1) (by simp; omega)
        refine ⟨j', u', by simpa using g1, by simpa using g2, ?_⟩
        simp at g3
        simp [g3, Nat.add_assoc]) (by simp at hr ⊢; omega)
      simp only [ne_eq, List.size_toArray, not_true_eq_false, decide_false, Bool.false_or]
      rw [if_neg (by simp; omega), hz, hi]
      simp

theorem r_build {parts : Array (Nat × Operand)} {ps : List (Nat × Value)} {out : List Value} {fs : Array Field} {places : List (Nat × Nat)} (hT : P.underlying T = some (.struct fs)) (hZ : TI P T d sz bts zv)
    (hpl : (fs.mapM (fun (f : Field) => do pure (f.offset, ← sizeOf f.type) : Field → Sem (Nat × Nat))).run P w = .ok places.toArray w)
    (hp : parts.toList.map (fun x => (x.1, ρ x.2)) = ps) (hf : Instr.fill (places.toArray[·]?) zv.cells ps = some out.toArray) :
    (execOp ρ ⟨dst, .build T parts, ty, pos, aft, g⟩).run P w = .ok (.value (.agg out.toArray)) w := by
  obtain ⟨i, hi, h1, h2, h3⟩ := hZ.info
  have hp' : (parts.map fun (x : Nat × Operand) => (x.1, ρ x.2)).toList = ps := by simpa using hp
  have hz : (zeroValue T).run P w = .ok zv w := by simp [zeroValue, typeInfo, program, Sem.run, hi, h3]
  simp only [execOp, Instr.build, Sem.run_bind, hz, Result.andThen_ok, run_underlying hT, hpl, hp', hf, Sem.run_pure]

/-- A built array of single cells, all said. -/
theorem r_buildA {parts : Array (Nat × Operand)} {vs : List Value} {len : Nat} (hZ : TI P T (.array len E) len bts zv) (hE : TI P E dE 1 sz v) (hp : parts.toList.map (fun x => (x.1, ρ x.2)) = vs.zipIdx.map (fun x => (x.2, x.1))) (hl : vs.length = len) (hzc : zv.cells.size = len) (h1 : One vs) :
    (execOp ρ ⟨dst, .build T parts, ty, pos, aft, g⟩).run P w = .ok (.value (.agg vs.toArray)) w := by
  obtain ⟨i, hi, _, _, h3⟩ := hZ.info
  have hp' : (parts.map fun (x : Nat × Operand) => (x.1, ρ x.2)).toList = vs.zipIdx.map (fun x => (x.2, x.1)) := by simpa using hp
  have hz : (zeroValue T).run P w = .ok zv w := by simp [zeroValue, typeInfo, program, Sem.run, hi, h3]
  have hfill : Instr.fill (fun i => some (i * 1, 1)) ([] ++ zv.cells.toList).toArray (vs.zipIdx.map (fun x => (x.2, x.1))) = some ([] ++ (vs.map fun v => [v]).flatten).toArray := by
    refine fill_all _ _ _ [] _ (by simp) ?_ ?_
    · intro i hi
      simp at hi
      refine ⟨i, vs[i], by simp [hi], ?_, ?_⟩
      · have hone := h1 vs[i] (List.getElem_mem hi)
        have e : vs[i].cells = #[vs[i]] := by cases hv : vs[i] <;> simp_all [Value.cells, Value.oneCell']
        rw [e]
        simp [hi]
      · have e : ∀ (l : List Value) (k : Nat), k ≤ l.length → (((l.map fun v => [v]).take k).flatten).length = k := by
          intro l
          induction l with
          | nil => intro k hk; simp at hk; subst hk; rfl
          | cons a l ih =>
            intro k hk
            cases k with
            | zero => rfl
            | succ k => simp at hk; simp [ih k hk]
        have e2 := e vs i (by omega)
        simp only [List.length_nil, Nat.zero_add, Nat.mul_one]
        rw [e2]
        simp [hi]
    · have e : ∀ (l : List Value), ((l.map fun v => [v]).flatten).length = l.length := by
        intro l; induction l with
        | nil => rfl
        | cons a l ih => simp [ih]
      rw [e]; simp [hzc, hl]
  have e : ∀ (l : List Value), (l.map fun v => [v]).flatten = l := by
    intro l; induction l with
    | nil => rfl
    | cons a l ih => simp [ih]
  simp only [List.nil_append, Array.toArray_toList, e] at hfill
  simp only [execOp, Instr.build, Sem.run_bind, hz, Result.andThen_ok, run_underlying hZ.und, run_sizeOf hE, hp', hfill, Sem.run_pure]

/-! ### conversions -/
theorem c_u8_u32 {c : UInt8} (hT : P.underlying T = some (.int .u32)) (hS : ∃ d, P.underlying T2 = some d) (hx : ρ x = b8 c) : (execOp ρ ⟨dst, .convert T2 T x, ty, pos, aft, g⟩).run P w = .ok (.value (v32 c.toUInt32)) w :=
  r_conv hT hS hx (by have := c.toNat_lt; rw [wrap_u32, UInt8.toNat_toUInt32]; omega)
theorem c_u8_i64 {c : UInt8} (hT : P.underlying T = some (.int .i64)) (hS : ∃ d, P.underlying T2 = some d) (hx : ρ x = b8 c) : (execOp ρ ⟨dst, .convert T2 T x, ty, pos, aft, g⟩).run P w = .ok (.value (vi c.toNat)) w :=
  r_conv hT hS hx (by have := c.toNat_lt; rw [wi (by omega) (by omega)])
theorem c_u32_i64 {c : UInt32} (hT : P.underlying T = some (.int .i64)) (hS : ∃ d, P.underlying T2 = some d) (hx : ρ x = v32 c) : (execOp ρ ⟨dst, .convert T2 T x, ty, pos, aft, g⟩).run P w = .ok (.value (vi c.toNat)) w :=
  r_conv hT hS hx (by have := c.toNat_lt; rw [wi (by omega) (by omega)])
theorem c_u32_u8 {c : UInt32} (hT : P.underlying T = some (.int .u8)) (hS : ∃ d, P.underlying T2 = some d) (hx : ρ x = v32 c) : (execOp ρ ⟨dst, .convert T2 T x, ty, pos, aft, g⟩).run P w = .ok (.value (b8 c.toUInt8)) w :=
  r_conv hT hS hx (by rw [wrap_u8, UInt32.toNat_toUInt8]; omega)
theorem c_u64_u8 {c : UInt64} (hT : P.underlying T = some (.int .u8)) (hS : ∃ d, P.underlying T2 = some d) (hx : ρ x = v64 c) : (execOp ρ ⟨dst, .convert T2 T x, ty, pos, aft, g⟩).run P w = .ok (.value (b8 c.toUInt8)) w :=
  r_conv hT hS hx (by rw [wrap_u8, UInt64.toNat_toUInt8]; omega)
theorem c_u64_u32 {c : UInt64} (hT : P.underlying T = some (.int .u32)) (hS : ∃ d, P.underlying T2 = some d) (hx : ρ x = v64 c) : (execOp ρ ⟨dst, .convert T2 T x, ty, pos, aft, g⟩).run P w = .ok (.value (v32 c.toUInt32)) w :=
  r_conv hT hS hx (by rw [wrap_u32, UInt64.toNat_toUInt32]; omega)
theorem c_u32_u64 {c : UInt32} (hT : P.underlying T = some (.int .u64)) (hS : ∃ d, P.underlying T2 = some d) (hx : ρ x = v32 c) : (execOp ρ ⟨dst, .convert T2 T x, ty, pos, aft, g⟩).run P w = .ok (.value (v64 c.toUInt64)) w :=
  r_conv hT hS hx (by have := c.toNat_lt; rw [wrap_u64, UInt32.toNat_toUInt64]; omega)
theorem c_i64_u64 {a : Nat} (hT : P.underlying T = some (.int .u64)) (hS : ∃ d, P.underlying T2 = some d) (hx : ρ x = vi a) (h : a ≤ 9223372036854775807) : (execOp ρ ⟨dst, .convert T2 T x, ty, pos, aft, g⟩).run P w = .ok (.value (v64 (UInt64.ofNat a))) w :=
  r_conv hT hS hx (by rw [wrap_u64, UInt64.toNat_ofNat']; omega)
theorem c_i64_u32 {a : Nat} (hT : P.underlying T = some (.int .u32)) (hS : ∃ d, P.underlying T2 = some d) (hx : ρ x = vi a) (h : a ≤ 9223372036854775807) : (execOp ρ ⟨dst, .convert T2 T x, ty, pos, aft, g⟩).run P w = .ok (.value (v32 (UInt32.ofNat a))) w :=
  r_conv hT hS hx (by rw [wrap_u32, UInt32.toNat_ofNat']; omega)
theorem c_i64_u8 {a : Nat} (hT : P.underlying T = some (.int .u8)) (hS : ∃ d, P.underlying T2 = some d) (hx : ρ x = vi a) : (execOp ρ ⟨dst, .convert T2 T x, ty, pos, aft, g⟩).run P w = .ok (.value (b8 (UInt8.ofNat a))) w :=
  r_conv hT hS hx (by rw [wrap_u8, UInt8.toNat_ofNat']; omega)
theorem c_u64_i64 {c : UInt64} (hT : P.underlying T = some (.int .i64)) (hS : ∃ d, P.underlying T2 = some d) (hx : ρ x = v64 c) (h : c.toNat ≤ 9223372036854775807) : (execOp ρ ⟨dst, .convert T2 T x, ty, pos, aft, g⟩).run P w = .ok (.value (vi c.toNat)) w :=
  r_conv hT hS hx (by rw [wi (by omega) (by omega)])

/-- An element of a block that is a list of one make. -/
theorem x_store1m {α : Type} {f : α → Value} {ws : List α} {u : α} (l1 : List Item) {l2 : List Item} (hS : St w0 M w (l1 ++ .blk b (cl (ws.map f) E) :: l2)) (h : TI P T d 1 bts zv) (hx : ρ x = pt b o) (hy : ρ y = f u) (hv : (f u).oneCell' = true) (ho : o < ws.length) :
    ∃ w', (execOp ρ ⟨none, .store T x y, ty, pos, aft, g⟩).run P w = .ok .skip w' ∧ St w0 M w' (l1 ++ .blk b (cl ((ws.set o u).map f) E) :: l2) := by
  have := x_store1 (ty := ty) (pos := pos) (aft := aft) (g := g) l1 hS h hx hy hv (by simpa using ho)
  rwa [← List.map_set] at this

theorem run_loadVar_blk {fr : Nat × Nat} (h : TI P T d sz bts zv) (hd : aggD d = true) (hb : w.heap[b]? = some (.cells C.toArray E fr)) (hl : C.length = sz) : (loadVar T ⟨b, 0, none⟩).run P w = .ok (.agg C.toArray) w := by
  subst hl
  exact run_loadVar_at h hd (at_all hb)

theorem St.fin (h : St w0 M w L) : St w0 M w [] := h.sub (List.nil_sublist _)
end

/-! ### Loops over the frame's list -/
def Keep (e0 e : Env) : List Nat → Prop
  | [] => True
  | i :: l => look e i = look e0 i ∧ Keep e0 e l
def again' (e0 e : Env) : List Nat → Env
  | [] => e
  | i :: l => (i, look e0 i) :: again' e0 e l
theorem look_again' (e0 e : Env) (l : List Nat) (hk : Keep e0 e l) (i : Nat) : look (again' e0 e l) i = look e i := by
  induction l with
  | nil => rfl
  | cons j l ih =>
    simp only [again', look_cons]
    by_cases h : j = i
    · subst h; simp [hk.1]
    · simp [h, ih hk.2]
theorem Keep.refl (e : Env) : ∀ l, Keep e e l
  | [] => trivial
  | _ :: l => ⟨rfl, Keep.refl e l⟩

theorem c_loopE {P : Program} {Q : Exit → Act → World → Prop} {n : Nat} {e0 : Env} {w : World} {c : Code} (S : List Nat) (I : Nat → Env → World → Prop) (N : Nat) (h0 : I N e0 w)
    (hr : ∀ d e w, I d e w → Keep e0 e S → c.wp P (Exit.then (fun a' w' => ∃ d' e', d' < d ∧ a' = act n e' ∧ I d' e' w' ∧ Keep e0 e' S) Q) (act n (again' e0 e S)) w) : (Code.loop c).wp P Q (act n e0) w := by
  refine c_loop (fun d a w => ∃ e, a = act n e ∧ I d e w ∧ Keep e0 e S) N ⟨e0, rfl, h0, Keep.refl _ _⟩ ?_
  rintro d a w ⟨e, rfl, hI, hk⟩
  have := hr d e w hI hk
  rw [act_congr n _ _ (look_again' e0 e S hk)] at this
  refine wp_mono this fun ex a' w' hq => ?_
  cases ex <;> first
    | exact hq
    | (obtain ⟨d', e', h1, h2, h3, h4⟩ := hq
       exact ⟨d', h1, e', h2, h3, h4⟩)

theorem c_set {P : Program} {Q : Exit → Act → World → Prop} {n : Nat} {e : Env} {w : World} {c : Code} {d : Nat} {v : Value} (h : look e d = v) (hc : c.wp P Q (act n ((d, v) :: e)) w) : c.wp P Q (act n e) w := by
  subst h
  rwa [act_dup n e d]
end Go.Kw
namespace Go.Kw
section
variable {P : Program} {ρ : Operand → Value} {w w0 : World} {M : List Nat} {L l1 l2 : List Item} {dst : Option Tmp} {ty : TypeId} {pos : String} {aft : Array Edge} {g : Option (Nat × Bool)} {x y z : Operand} {T T2 E : TypeId} {v : Value} {k : IntKind}
  {d dE : TypeDesc} {sz bts b o : Nat} {zv : Value} {a : Option Addr} {cs C : List Value}

/-- Behind a pointer of which the cells are known. -/
theorem r_loadAt1 {off j : Nat} (h : P.underlying T = some d) (hd : aggD d = false) (hx : ρ x = pt b o) (hA : At w b off cs) (hv : cs[j]? = some v) (ho : off + j = o) : (execOp ρ ⟨dst, .load T x, ty, pos, aft, g⟩).run P w = .ok (.value v) w := by
  subst ho
  exact r_load1 h hd hx (hA j v hv)
/-- A part of a block that is a list of one make. -/
theorem r_loadBPm {α : Type} {f : α → Value} {ws : List α} {fr : Nat × Nat} (h : TI P T d sz bts zv) (hd : aggD d = true) (hx : ρ x = pt b o) (hb : w.heap[b]? = some (.cells (ws.map f).toArray E fr)) (hl : o + sz ≤ ws.length) :
    (execOp ρ ⟨dst, .load T x, ty, pos, aft, g⟩).run P w = .ok (.value (.agg (((ws.drop o).take sz).map f).toArray)) w := by
  have := r_loadBP (dst := dst) (ty := ty) (pos := pos) (aft := aft) (g := g) h hd hx hb (by simpa using hl)
  rw [this]
  simp [List.map_take, List.map_drop]

theorem r_sa1_0 {len : Nat} (hT : P.underlying T = some (.array len E)) (hE : TI P E dE 1 bts zv) (hx : ρ x = pt b o) :
    (execOp ρ ⟨dst, .slice T x none none none, ty, pos, aft, g⟩).run P w = .ok (.value (.slice (some ⟨b, o, none⟩) len len)) w := r_sa_0 hT hE hx
theorem r_sa1_h {len h : Nat} (hT : P.underlying T = some (.array len E)) (hE : TI P E dE 1 bts zv) (hx : ρ x = pt b o) (hz : ρ z = .int k (h : Int)) (hc : h ≤ len) :
    (execOp ρ ⟨dst, .slice T x none (some z) none, ty, pos, aft, g⟩).run P w = .ok (.value (.slice (some ⟨b, o, none⟩) h len)) w := r_sa_h hT hE hx hz hc
theorem r_sa1_l {len l : Nat} (hT : P.underlying T = some (.array len E)) (hE : TI P E dE 1 bts zv) (hx : ρ x = pt b 0) (hy : ρ y = .int k (l : Int)) (hlh : l < len) :
    (execOp ρ ⟨dst, .slice T x (some y) none none, ty, pos, aft, g⟩).run P w = .ok (.value (.slice (some ⟨b, l, none⟩) (len - l) (len - l))) w := by
  have := r_sa_l (dst := dst) (ty := ty) (pos := pos) (aft := aft) (g := g) (w := w) hT hE hx hy hlh
  simpa using this
theorem r_sa1_lh {len l h : Nat} (hT : P.underlying T = some (.array len E)) (hE : TI P E dE 1 bts zv) (hx : ρ x = pt b 0) (hy : ρ y = .int k (l : Int)) {k2 : IntKind} (hz : ρ z = .int k2 (h : Int)) (hlh : l ≤ h) (hl : l < len) (hc : h ≤ len) :
    (execOp ρ ⟨dst, .slice T x (some y) (some z) none, ty, pos, aft, g⟩).run P w = .ok (.value (.slice (some ⟨b, l, none⟩) (h - l) (len - l))) w := by
  have := r_sa_lh (dst := dst) (ty := ty) (pos := pos) (aft := aft) (g := g) (w := w) hT hE hx hy hz hlh hl hc
  simpa using this

/-- A copy from one list of one make into another. -/
theorem x_copym {α : Type} {f : α → Value} {ws us : List α} (l1 : List Item) {l2 : List Item} {dLen dCap sLen sCap : Nat} {dT sT : TypeId} (hS : St w0 M w (l1 ++ .blk b (cl (ws.map f) E) :: l2)) (hT : P.underlying dT = some (.slice T)) (hE : TI P T dE 1 bts zv)
    (hx : ρ x = .slice (some ⟨b, o, none⟩) dLen dCap) (hy : ρ y = .slice a sLen sCap) (hr : Row w a (us.map f)) (hn : us.length = sLen) (hd : sLen ≤ dLen) (hfit : o + sLen ≤ ws.length) (h1 : ∀ x, (f x).oneCell' = true) (args : Array Operand) (ha : args = #[x, y]) :
    ∃ v w', (execOp ρ ⟨dst, .call { callee := .builtin .copy, args := args, argTypes := #[dT, sT] }, ty, pos, aft, g⟩).run P w = .ok (.value v) w' ∧ v = vi sLen ∧ St w0 M w' (l1 ++ .blk b (cl ((splice ws o us).map f) E) :: l2) := by
  have hm : min sLen dLen = sLen := Nat.min_eq_left hd
  obtain ⟨v, w', h1', h2, h3⟩ := x_copy (dst := dst) (ty := ty) (pos := pos) (aft := aft) (g := g) l1 hS hT hE hx hy hr (by simpa using hn) (by rw [hm]; simpa using hfit) (one_map us h1) args ha
  refine ⟨v, w', h1', by rw [h2, hm], ?_⟩
  have e : splice (ws.map f) o ((us.map f).take dLen) = (splice ws o us).map f := by
    rw [List.take_of_length_le (by simp; omega)]
    simp [splice, List.map_take, List.map_drop]
  rw [e] at h3
  exact h3
end

/-! ### Lists that are filled from the left -/
def upto {α : Type} (n : Nat) (f : Nat → α) (z : α) (k : Nat) : List α := (List.range n).map fun j => if j < k then f j else z
@[simp] theorem upto_len {α : Type} (n : Nat) (f : Nat → α) (z : α) (k : Nat) : (upto n f z k).length = n := by simp [upto]
theorem upto_zero {α : Type} (n : Nat) (f : Nat → α) (z : α) : upto n f z 0 = List.replicate n z := by
  apply List.ext_getElem <;> simp [upto]
theorem upto_full {α : Type} (n : Nat) (f : Nat → α) (z : α) : upto n f z n = (List.range n).map f := by
  apply List.ext_getElem <;> simp +contextual [upto]
theorem upto_set {α : Type} (n : Nat) (f : Nat → α) (z : α) (k : Nat) (_ : k < n) : (upto n f z k).set k (f k) = upto n f z (k + 1) := by
  apply List.ext_getElem
  · simp
  · intro i h1 h2
    simp only [List.getElem_set, upto, List.getElem_map, List.getElem_range]
    by_cases hk : k = i
    · subst hk; simp
    · rw [if_neg hk]
      by_cases hi : i < k
      · rw [if_pos hi, if_pos (by omega)]
      · rw [if_neg hi, if_neg (by omega)]
theorem flat_splice {α : Type} (c : Nat) : ∀ (ls : List (List α)) (k : Nat) (x : List α), (∀ l ∈ ls, l.length = c) → k < ls.length → x.length = c → splice ls.flatten (c * k) x = (ls.set k x).flatten := by
  intro ls
  induction ls with
  | nil => intro k x _ h; simp at h
  | cons l ls ih =>
    intro k x hl hk hx
    have h0 : l.length = c := hl l (by simp)
    cases k with
    | zero =>
      simp only [Nat.mul_zero, List.flatten_cons, List.set_cons_zero, splice, List.take_zero, List.nil_append, Nat.zero_add]
      rw [List.drop_append_of_le_length (by omega), List.drop_of_length_le (by omega)]
      simp
    | succ k =>
      have e : c * (k + 1) = l.length + c * k := by rw [h0, Nat.mul_add]; omega
      have := ih k x (fun m hm => hl m (by simp [hm])) (by simpa using hk) hx
      simp only [List.flatten_cons, List.set_cons_succ]
      rw [← this, e]
      simp only [splice]
      rw [List.take_length_add_append, Nat.add_assoc, List.drop_length_add_append, List.append_assoc]
end Go.Kw
