/- Heads of ledgers in memory; structures that are equal field by field; []byte of a constant, marked. No condition. -/
import Derived.Test.YtfohfnpehfcaaaaNum
import Derived.Test.YtfohfnpehfcaaaaData
import Derived.Laws.StructEq
namespace Go.Kw
set_option linter.unusedVariables false
set_option linter.unusedSimpArgs false
section
variable {P : Program} {ρ : Operand → Value} {w w0 : World} {M : List Nat} {L l1 l2 : List Item} {dst : Option Tmp} {ty : TypeId} {pos : String} {aft : Array Edge} {g : Option (Nat × Bool)} {x y z : Operand} {T T2 E I : TypeId} {v : Value} {k : IntKind}
  {d dE : TypeDesc} {sz bts b o : Nat} {zv : Value} {a : Option Addr} {cs C : List Value}
/-- A conversion of a row of octets to its own type: the row is marked, its cells are what they were. -/
theorem x_mark {n c : Nat} (l1 : List Item) {l2 : List Item} (hS : St w0 M w (l1 ++ .blk b (cl C E) :: l2)) (hT : P.underlying T = some (.slice E)) (hE : P.underlying E = some (.int .u8)) (hx : ρ x = .slice (some ⟨b, 0, none⟩) n c) :
    ∃ v w', (execOp ρ ⟨dst, .convert T T x, ty, pos, aft, g⟩).run P w = .ok (.value v) w' ∧ (v = .slice (some ⟨b, 0, none⟩) n c ∧ St w0 M w' (l1 ++ .blk b (.cells C.toArray E (C.length, C.length + 1)) :: l2)) := by
  have hb : w.heap[b]? = some (cl C E) := hS.heap (by simp)
  have hsh : w.shape? b = some (E, C.length) := by
    unfold World.shape?
    rw [hb]
    simp
  refine ⟨_, w.freeze ⟨b, C.length, none⟩ 1, ?_, rfl, ?_⟩
  · simp [execOp, hx, convert, run_underlying hT, run_underlying hE, markStringish, hsh]
  · have hit := hS.has (.blk b (cl C E)) (by simp)
    have hbl : b < w.heap.size := (Array.getElem?_eq_some_iff.1 hb).1
    have hfz : ∀ k, (w.freeze ⟨b, C.length, none⟩ 1).heap[k]? = if b = k then some (.cells C.toArray E (C.length, C.length + 1)) else w.heap[k]? := by
      intro k
      unfold World.freeze
      rw [if_neg (by decide)]
      simp only [Array.getElem?_modify]
      split
      · rename_i h
        subst h
        rw [hb]; rfl
      · rfl
    refine hS.turnAt ?_ ?_ ?_ ?_ (fun k hk hne => ?_) ⟨?_, hit.2⟩ (fun k hk => .inl hk)
    · unfold World.freeze; rw [if_neg (by decide)]
    · unfold World.freeze; rw [if_neg (by decide)]
    · unfold World.freeze; rw [if_neg (by decide)]
    · unfold World.freeze; rw [if_neg (by decide)]; simp
    · rw [hfz, if_neg]
      intro e; subst e; exact hne rfl
    · rw [hfz, if_pos rfl]
theorem r_loadPX (h : TI P T d sz bts zv) (hd : aggD d = true) (hx : ρ x = .pointer a) (hr : Row w a cs) (hz : 0 < sz) (hn : cs.length = sz) : (execOp ρ ⟨dst, .load T x, ty, pos, aft, g⟩).run P w = .ok (.value (.agg cs.toArray)) w := by
  have := r_loadPA (dst := dst) (ty := ty) (pos := pos) (aft := aft) (g := g) h hd hx hr hz (by omega)
  rwa [List.take_of_length_le (by omega)] at this

/-! ### Structures, field by field -/
def EqAtN (P : Program) (n : Nat) (T : TypeId) (u v : Value) (p : Prop) [Decidable p] : Prop := ∀ d w, (Op.equalIn (d + n) T u v).run P w = .ok (decide p) w
def EqFsN (P : Program) (n : Nat) (xs ys : Array Value) (fs : List Field) (p : Prop) [Decidable p] : Prop := ∀ d w, (Op.eqFields (d + n) xs ys fs).run P w = .ok (decide p) w
theorem eqFs_nil {n : Nat} {xs ys : Array Value} : EqFsN P n xs ys [] True := fun d w => by simp [Op.eqFields]
theorem eqFs_cons {n : Nat} {xs ys : Array Value} {f : Field} {fs : List Field} {p q : Prop} [Decidable p] [Decidable q] (u v : Value) (hn : f.name ≠ "_") (hu : ∀ w, (part f.type xs f.offset).run P w = .ok u w) (hv : ∀ w, (part f.type ys f.offset).run P w = .ok v w)
    (he : EqAtN P n f.type u v p) (hr : EqFsN P n xs ys fs q) : EqFsN P n xs ys (f :: fs) (p ∧ q) := fun d w => by
  simp only [Op.eqFields, if_pos hn, Sem.run_bind, hu w, hv w, Result.andThen_ok, he d w]
  by_cases hp : p
  · rw [decide_eq_true hp]
    simp only [Bool.not_true, Bool.false_eq_true, if_false]
    rw [hr d w]
    congr 1
    exact decide_eq_decide.2 ⟨fun h => ⟨hp, h⟩, fun h => h.2⟩
  · rw [decide_eq_false hp]
    simp only [Bool.not_false, if_true, Sem.run_pure]
    congr 1
    exact (decide_eq_false fun h => hp h.1).symm
theorem eqAt_struct {xs ys : Array Value} {fs : List Field} {p : Prop} [Decidable p] (hT : P.underlying T = some (.struct fs.toArray)) (hp : P.stoodInHeld T = false) (h : EqFsN P 99 xs ys fs p) : EqIs P T (.agg xs) (.agg ys) p := fun d w => by
  have hf : P.fieldsOf T = fs.toArray := by unfold Program.fieldsOf; rw [hT]
  rw [show d + 100 = (d + 99) + 1 from rfl, run_equalIn_agg w (d + 99) T xs ys (by rw [hf]; exact hT) hp, hf]
  exact h d w
theorem eqAt_int {n : Nat} {k k' : IntKind} {u v : Int} (h : P.underlying T = some (.int k')) : EqAtN P (n + 1) T (.int k u) (.int k v) (u = v) := fun d w => by
  rw [show d + (n + 1) = (d + n) + 1 from rfl, run_equalIn_int w (d + n) T k k' u v h]
  rfl
theorem eqAt_b8 {len n : Nat} (hT : P.underlying T = some (.array len E)) (hE : TI P E (.int .u8) 1 bts zv) (xs ys : List UInt8) (h1 : xs.length = len) (h2 : ys.length = len) : EqAtN P (n + 2) T (.agg (xs.map b8).toArray) (.agg (ys.map b8).toArray) (xs = ys) := by
  intro d w
  have := run_eqA_ints (w := w) hT hE (d + n) (xs.map fun c => (c.toNat : Int)) (ys.map fun c => (c.toNat : Int)) (by simpa using h1) (by simpa using h2)
  simp only [List.map_map] at this
  rw [show d + (n + 2) = d + n + 2 from rfl]
  have e : ∀ l : List UInt8, l.map (Value.int IntKind.u8 ∘ fun c => (c.toNat : Int)) = l.map b8 := fun l => rfl
  rw [e, e] at this
  rw [this]
  congr 1
  have hinj : (xs.map (fun c => (c.toNat : Int)) = ys.map fun c => (c.toNat : Int)) ↔ xs = ys := by
    constructor
    · intro h
      exact List.map_inj_right (fun a b hab => UInt8.toNat_inj.1 (by exact_mod_cast hab)) |>.1 h
    · intro h; rw [h]
  exact decide_eq_decide.2 hinj

/-! ### Heads -/
/-- The cells of a head. -/
def headV (ct tm : Int) (la ro : List UInt8) : List Value := [Value.int .i64 ct, Value.int .i64 tm] ++ (la.map b8 ++ ro.map b8)
@[simp] theorem headV_len {ct tm : Int} {la ro : List UInt8} (hla : la.length = 32) (hro : ro.length = 32) : (headV ct tm la ro).length = 66 := by simp [headV, hla, hro]
theorem headV_drop2 {ct tm : Int} {la ro : List UInt8} (hla : la.length = 32) : ((headV ct tm la ro).drop 2).take 32 = la.map b8 := by
  show (la.map b8 ++ ro.map b8).take 32 = _
  rw [List.take_append_of_le_length (by simp [hla]), List.take_of_length_le (by simp [hla])]
theorem headV_drop34 {ct tm : Int} {la ro : List UInt8} (hla : la.length = 32) (hro : ro.length = 32) : ((headV ct tm la ro).drop 34).take 32 = ro.map b8 := by
  show ((la.map b8 ++ ro.map b8).drop 32).take 32 = _
  have : (la.map b8).length = 32 := by simp [hla]
  rw [← this, List.drop_left, List.take_of_length_le (by simp [hla, hro])]
theorem head_at2 {b : Nat} {E : TypeId} {ct tm : Int} {la ro : List UInt8} {fr : Nat × Nat} (h : w.heap[b]? = some (.cells (headV ct tm la ro).toArray E fr)) (hla : la.length = 32) : At w b 2 (la.map b8) := by
  have := at_part (off := 2) (n := 32) h
  rwa [headV_drop2 hla] at this
theorem head_at34 {b : Nat} {E : TypeId} {ct tm : Int} {la ro : List UInt8} {fr : Nat × Nat} (h : w.heap[b]? = some (.cells (headV ct tm la ro).toArray E fr)) (hla : la.length = 32) (hro : ro.length = 32) : At w b 34 (ro.map b8) := by
  have := at_part (off := 34) (n := 32) h
  rwa [headV_drop34 hla hro] at this
theorem one_head {ct tm : Int} {la ro : List UInt8} : One (headV ct tm la ro) := one_cons rfl (one_cons rfl (one_app (a := la.map b8) (b := ro.map b8) (one_b8 _) (one_b8 _)))
theorem cells_head {ct tm : Int} {la ro : List UInt8} : (Value.agg (headV ct tm la ro).toArray).cells = (headV ct tm la ro).toArray := rfl
theorem r_buildHead {parts : Array (Nat × Operand)} {ct tm : Int} {la ro : List UInt8} (hp : placesOf P T = some [(0, 1), (1, 1), (2, 32), (34, 32)]) (hZ : TI P T d sz bts (.agg (headV 0 0 (List.replicate 32 0) (List.replicate 32 0)).toArray)) (hla : la.length = 32) (hro : ro.length = 32)
    (hv : parts.toList.map (fun x => (x.1, ρ x.2)) = [(0, .int .i64 ct), (1, .int .i64 tm), (2, .agg (la.map b8).toArray), (3, .agg (ro.map b8).toArray)]) :
    (execOp ρ ⟨dst, .build T parts, ty, pos, aft, g⟩).run P w = .ok (.value (.agg (headV ct tm la ro).toArray)) w := by
  have c1 : cellsL (.agg (la.map b8).toArray) = la.map b8 := by simp [cellsL, Value.cells]
  have c2 : cellsL (.agg (ro.map b8).toArray) = ro.map b8 := by simp [cellsL, Value.cells]
  refine r_buildF (vs := [.int .i64 ct, .int .i64 tm, .agg (la.map b8).toArray, .agg (ro.map b8).toArray]) hp hZ (by rw [hv]; rfl) ?_ ?_ ?_
  · simp only [List.map_cons, List.map_nil, List.flatten_cons, List.flatten_nil, c1, c2, headV, List.append_nil]
    rfl
  · intro i hi
    match i, hi with
    | 0, _ => rfl
    | 1, _ => rfl
    | 2, _ =>
      have : (cellsL ([Value.int .i64 ct, .int .i64 tm, .agg (la.map b8).toArray, .agg (ro.map b8).toArray].getD 2 undef)).length = 32 := by
        show (cellsL (.agg (la.map b8).toArray)).length = 32
        rw [c1, List.length_map, hla]
      rw [this]; rfl
    | 3, _ =>
      have : (cellsL ([Value.int .i64 ct, .int .i64 tm, .agg (la.map b8).toArray, .agg (ro.map b8).toArray].getD 3 undef)).length = 32 := by
        show (cellsL (.agg (ro.map b8).toArray)).length = 32
        rw [c2, List.length_map, hro]
      have h2 : ((([Value.int .i64 ct, .int .i64 tm, .agg (la.map b8).toArray, .agg (ro.map b8).toArray].map cellsL).take 3).flatten).length = 34 := by
        show ([Value.int .i64 ct] ++ ([Value.int .i64 tm] ++ (cellsL (.agg (la.map b8).toArray) ++ []))).length = 34
        rw [c1]; simp [hla]
      rw [this, h2]; rfl
  · simp [Value.cells, headV_len, hla, hro]
theorem opens_head {t : TypeId} {R : Int × Int × List UInt8 × List UInt8 × Unit → Prop} (h : Opens P w t (fun y : Int × Int × List UInt8 × List UInt8 × Unit => [Value.int .i64 y.1] ++ ([Value.int .i64 y.2.1] ++ (y.2.2.1.map b8 ++ (y.2.2.2.1.map b8 ++ [])))) R) :
    Opens P w t (fun y : Int × Int × List UInt8 × List UInt8 => headV y.1 y.2.1 y.2.2.1 y.2.2.2) (fun y => R (y.1, y.2.1, y.2.2.1, y.2.2.2, ())) :=
  h.to (fun y => (y.1, y.2.1, y.2.2.1, y.2.2.2.1)) (fun y => by simp [headV]) (fun y hy => hy)
theorem run_part1 (h : P.underlying T = some d) (hd : aggD d = false) (hv : cs[o]? = some v) : (part T cs.toArray o).run P w = .ok v w := by
  simp [part, run_isAgg h, hd, hv]
theorem run_partA (h : TI P T d sz bts zv) (hd : aggD d = true) : (part T cs.toArray o).run P w = .ok (.agg ((cs.drop o).take sz).toArray) w := by
  have e : cs.toArray.extract o (o + sz) = ((cs.drop o).take sz).toArray := by
    apply Array.ext'
    simp [List.drop_take]
  simp only [part, Sem.run_bind, run_isAgg h.und, Result.andThen_ok, hd, if_true, run_sizeOf h, e, Sem.run_pure]
end
theorem fin_row {a : Option Addr} {N K c : Nat} {e : Value} (hn : N = K) : Value.tuple #[.slice a N c, e] = .tuple #[.slice a K c, e] := by rw [hn]
theorem St.rowTo {w0 w : World} {M : List Nat} {a : Option Addr} {n n' c : Nat} {E : TypeId} {xs xs' : List Value} (h : St w0 M w [.row (.slice a n c) E 1 n xs]) (hn : n = n') (hx : xs = xs') : St w0 M w [.row (.slice a n' c) E 1 n' xs'] := by subst hn; subst hx; exact h
/-- A head, printed. -/
def headL (ct tm : Int) (la ro : List UInt8) : List UInt8 := (([75, 87, 72, 49] ++ octs8 (UInt64.ofNat ct.toNat)) ++ octs8 (UInt64.ofNat tm.toNat)) ++ la ++ ro
theorem headL_len {ct tm : Int} {la ro : List UInt8} (hla : la.length = 32) (hro : ro.length = 32) : (headL ct tm la ro).length = 84 := by simp [headL, hla, hro]
end Go.Kw
