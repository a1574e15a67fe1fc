/- What the law's proof leans on. No condition. -/
import Derived.Test.YtjnnhlbfgnopiaaGreatDoorPCAD
import Derived.Laws.StructEq
namespace Go.Kw
set_option linter.unusedVariables false
set_option linter.unusedSimpArgs false
section
variable {P : Program} {ρ : Operand → Value} {w w0 : World} {M : List Nat} {L l1 l2 : List Item} {dst : Option Tmp} {ty : TypeId} {pos : String} {aft : Array Edge} {g : Option (Nat × Bool)} {x y z : Operand} {T T2 E : TypeId} {v : Value} {k : IntKind}
  {d dE : TypeDesc} {sz bts b o : Nat} {zv : Value} {a : Option Addr} {cs C : List Value}

/-- A new block with a slice at its head is an owned row. -/
theorem St.toRow {n cap : Nat} (h : St w0 M w (l1 ++ .blk b (cl C E) :: l2)) (hn : n ≤ cap) (hc : cap ≤ 9223372036854775807) (hl : C.length = cap * sz) : St w0 M w (l1 ++ .row (.slice (some ⟨b, 0, none⟩) n cap) E sz n (C.take (n * sz)) :: l2) := by
  have hx := h.has (.blk b (cl C E)) (by simp)
  refine h.turnAt rfl rfl rfl (Nat.le_refl _) (fun _ _ _ => rfl) ?_ (fun k hk => .inl hk)
  refine ⟨⟨?_, .inr ⟨b, cap, C.toArray, rfl, Nat.zero_le _, hx.1, hn, by simpa [maxLen] using hc, by simpa using hl, by simp⟩⟩, ?_⟩
  · have : n * sz ≤ cap * sz := Nat.mul_le_mul_right _ hn
    simp; omega
  · intro g hg
    simp only [Value.ownBlock, Option.some.injEq] at hg
    subst hg
    exact hx.2
theorem St.nilRow (h : St w0 M w L) : St w0 M w (.row (.slice none 0 0) E sz 0 [] :: L) := by
  refine ⟨h.os, h.tape, h.output, h.size, h.old, ?_, by simpa [Item.id, Value.ownBlock, List.filterMap_cons] using h.apart⟩
  intro x hx
  rcases List.mem_cons.1 hx with rfl | hx
  · exact ⟨World.ownsRow_nil w 0 E sz, fun g hg => by simp [Value.ownBlock] at hg⟩
  · exact h.has x hx

theorem x_make_row {c : Nat} {k2 : IntKind} (hS : St w0 M w L) (hT : P.underlying T = some (.slice E)) (hE : TI P E dE sz bts zv) (hx : ρ x = .int k ((0 : Nat) : Int)) (hy : ρ y = .int k2 (c : Int)) (hb : bts * c ≤ 281474976710656) (hc : c ≤ 9223372036854775807) :
    ∃ v w', (execOp ρ ⟨dst, .makeSlice T x y, ty, pos, aft, g⟩).run P w = .ok (.value v) w' ∧ ∃ a, v = .slice a 0 c ∧ St w0 M w' (.row (.slice a 0 c) E sz 0 [] :: L) := by
  obtain ⟨v, w', h1, b, h2, h3⟩ := x_make (dst := dst) (ty := ty) (pos := pos) (aft := aft) (g := g) (l := 0) (zs := (madeCells zv.cells (c * sz)).toList) hS hT hE hx hy (Nat.zero_le _) hb hc (by simp)
  have := St.toRow (l1 := []) (sz := sz) (n := 0) (cap := c) h3 (Nat.zero_le _) hc (by simp [size_madeCells])
  exact ⟨v, w', h1, _, h2, by simpa using this⟩

theorem x_append (l1 : List Item) {l2 : List Item} {n m c : Nat} {xs news : List Value} (hS : St w0 M w (l1 ++ .row v E sz n xs :: l2)) (hT : P.underlying T = some (.slice E)) (hE : TI P E dE sz bts zv) (hz : zv.cells.size = sz) (hsz : 0 < sz)
    (hx : ρ x = v) (hy : ρ y = .slice a m c) (hr : Row w a news) (hl : news.length = m * sz) (h1 : One news) (h63 : n + m ≤ 9223372036854775807) (hb : (n + m) * bts ≤ 140737488355328) (args : Array Operand) (ha : args = #[x, y]) :
    ∃ u w', (execOp ρ ⟨dst, .call { callee := .builtin .append, args := args, argTypes := #[T, T] }, ty, pos, aft, g⟩).run P w = .ok (.value u) w' ∧
      ∃ a' c', u = .slice a' (n + m) c' ∧ n + m ≤ c' ∧ St w0 M w' (l1 ++ .row (.slice a' (n + m) c') E sz (n + m) (xs ++ news) :: l2) := by
  subst ha
  obtain ⟨i, hi, hs1, hs2, hs3⟩ := hE.info
  subst hs1; subst hs2
  have hit := hS.has (.row v E i.size n xs) (by simp)
  have hown := hit.1
  have hlen : (xs ++ news).length = (n + m) * i.size := by rw [List.length_append, hown.1, hl, Nat.add_mul]
  have fin : ∀ u w', (Builtin.append_ #[T, T] ty #[v, .slice a m c]).run P w = .ok u w' → (execOp ρ ⟨dst, .call { callee := .builtin .append, args := #[x, y], argTypes := #[T, T] }, ty, pos, aft, g⟩).run P w = .ok (.value u) w' := by
    intro u w' h
    simp [execOp, resolve, invoke, builtin, hx, hy, h]
  have hfresh : ∀ old, old < n + m → ∃ a' c', Value.slice (some ⟨w.heap.size, 0, none⟩) (n + m) (grownCap w (n + m) old E) = .slice a' (n + m) c' ∧ n + m ≤ c' ∧
      St w0 M (w.drew.alloc (.cells (xs.toArray ++ news.toArray ++ Builtin.zeroCells zv.cells (grownCap w (n + m) old E - (n + m))) E)) (l1 ++ .row (.slice a' (n + m) c') E i.size (n + m) (xs ++ news) :: l2) := by
    intro old ho
    have hge := grownCap_ge w (n + m) old E
    refine ⟨_, _, rfl, hge, ?_⟩
    refine hS.turnAt rfl rfl rfl (by simp) (fun k hk _ => heap_alloc_old w.drew _ k hk) ?_ (fun k hk => .inr ?_)
    · refine ⟨⟨hlen, .inr ⟨w.heap.size, _, _, rfl, Nat.zero_le _, heap_alloc_new w.drew _, hge, grownCap_le_maxLen w (n + m) old E (by simpa [maxLen] using h63), ?_, ?_⟩⟩, ?_⟩
      · simp only [Array.size_append, List.size_toArray, size_zeroCells, hz, hown.1, hl, ← Nat.add_mul]
        congr 1
        omega
      · simp only [Array.toList_append, List.append_assoc]
        rw [← List.append_assoc, ← hlen]
        exact List.take_left
      · intro g hg
        simp only [Value.ownBlock, Option.some.injEq] at hg
        subst hg
        exact .inl hS.size
    · simp only [Item.id, Value.ownBlock, Option.some.injEq] at hk
      omega
  -- what is appended, as cells behind an address
  rcases Nat.eq_zero_or_pos m with hm | hm
  · -- nothing is appended
    subst hm
    have hn0 : news = [] := List.eq_nil_of_length_eq_zero (by simpa using hl)
    subst hn0
    obtain ⟨a', c', hv, hrow, hnc, hxl⟩ := row_at hown
    refine ⟨v, w, fin _ _ ?_, a', c', by simpa using hv, by simpa using hnc, by simpa [← hv] using hS⟩
    subst hv
    cases a with
    | none => cases a' with
      | none => simp [Builtin.append_, run_underlying hT, sizeOf, typeInfo, hi, Builtin.lenOf, Builtin.firstCells, hnc]
      | some p => simp [Builtin.append_, run_underlying hT, sizeOf, typeInfo, hi, Builtin.lenOf, Builtin.firstCells, hnc, storeCells]
    | some q => cases a' with
      | none => simp [Builtin.append_, run_underlying hT, sizeOf, typeInfo, hi, Builtin.lenOf, Builtin.firstCells, loadCells, loadCellsFrom, hnc]
      | some p => simp [Builtin.append_, run_underlying hT, sizeOf, typeInfo, hi, Builtin.lenOf, Builtin.firstCells, loadCells, loadCellsFrom, hnc, storeCells]
  · have hpos : 0 < news.length := by rw [hl]; exact Nat.mul_pos hm hsz
    obtain ⟨bq, oq, ha, hA⟩ := hr.some_of hpos
    subst ha
    have hnews : ∀ j u, news[j]? = some u → w.cell? ((⟨bq, oq, none⟩ : Addr).add j) = some u := fun j u hu => by rw [add_lit]; exact hA j u hu
    rcases hown.2 with ⟨hv, hn⟩ | ⟨gq, cap, cur, hv, _, hg, hnc, hcm, hcs, htake⟩
    · subst hv; subst hn
      have hx0 : xs = [] := List.eq_nil_of_length_eq_zero (by simpa using hown.1)
      subst hx0
      have hrun := run_append_nil (P := P) w T ty E i zv hT hi hs3 ⟨bq, oq, none⟩ m c news hl hnews hm (by omega) (by simp only [Nat.zero_add] at hb; omega)
      obtain ⟨a', c', h1', h2', h3'⟩ := hfresh 0 (by omega)
      simp only [Nat.zero_add, Array.empty_append] at h1' h3' ⊢
      exact ⟨_, _, fin _ _ hrun, a', c', h1', by omega, by simpa using h3'⟩
    · subst hv
      by_cases hroom : n + m ≤ cap
      · have hfit : n * i.size + news.length ≤ cur.size := by rw [hl, hcs, ← Nat.add_mul]; exact Nat.mul_le_mul_right _ hroom
        have hrun := run_append_room (P := P) w T ty E i hT hi gq n cap cur hg ⟨bq, oq, none⟩ m c news hl hnews h1 hroom hfit
        refine ⟨_, _, fin _ _ hrun, _, _, rfl, hroom, ?_⟩
        refine hS.turnAt rfl rfl rfl (by simp) (fun k hk hne => setRow_other w gq k _ (fun e => hne (by simp [Item.id, Value.ownBlock, e]))) ?_ (fun k hk => .inl (by simpa [Item.id, Value.ownBlock] using hk))
        refine ⟨⟨hlen, .inr ⟨gq, cap, _, rfl, Nat.zero_le _, setRow_heap w gq cur _ E _ hg, hroom, hcm, ?_, ?_⟩⟩, ?_⟩
        · simp only [List.size_toArray, List.length_append, List.length_take, List.length_drop, Array.length_toList]
          omega
        · rw [htake, ← hlen]
          exact List.take_left
        · intro g' hg'
          exact hit.2 g' (by simpa [Value.ownBlock] using hg')
      · have hrow := row_at hown
        have holds : ∀ j u, xs[j]? = some u → w.cell? ((⟨gq, 0, none⟩ : Addr).add j) = some u := hown.cells (g := gq) rfl
        have hrun := run_append_grow (P := P) w T ty E i zv hT hi hs3 ⟨gq, 0, none⟩ n cap xs hown.1 holds ⟨bq, oq, none⟩ m c news hl hnews (by omega) (by omega) (growslice_fits (by omega) hb)
        obtain ⟨a', c', h1', h2', h3'⟩ := hfresh cap (by omega)
        exact ⟨_, _, fin _ _ hrun, a', c', h1', h2', h3'⟩

/-- []T{..} of single cells, all said. -/
theorem x_lit {parts : Array (Nat × Operand)} {vs : List Value} {len : Nat} (hS : St w0 M w L) (hT : P.underlying T = some (.slice E)) (hE : TI P E dE 1 bts zv) (hp : parts.toList.map (fun x => (x.1, ρ x.2)) = vs.zipIdx.map (fun x => (x.2, x.1))) (hl : vs.length = len) (hzc : zv.cells.size = 1) (h1 : One vs) (hlen : len ≤ 16777216) :
    ∃ v w', (execOp ρ ⟨dst, .buildSlice T len parts, ty, pos, aft, g⟩).run P w = .ok (.value v) w' ∧ ∃ b, v = .slice (some ⟨b, 0, none⟩) len len ∧ St w0 M w' (.blk b (cl vs E) :: L) := by
  obtain ⟨i, hi, hs1, _, h3⟩ := hE.info
  have hp' : (parts.map fun (x : Nat × Operand) => (x.1, ρ x.2)).toList = vs.zipIdx.map (fun x => (x.2, x.1)) := by simpa using hp
  have e : ∀ (l : List Value), (l.map fun v => [v]).flatten = l := by
    intro l; induction l with
    | nil => rfl
    | cons a l ih => simp [ih]
  have hfill : ∀ zs : List Value, zs.length = len → Instr.fill (fun i => some (i * 1, 1)) ([] ++ zs).toArray (vs.zipIdx.map (fun x => (x.2, x.1))) = some ([] ++ (vs.map fun v => [v]).flatten).toArray := by
    intro zs hzs
    refine fill_all _ _ _ [] _ (by simp) ?_ ?_
    · intro i hi
      simp at hi
      refine ⟨i, vs[i], by simp [hi], ?_, ?_⟩
      · have hone := h1 vs[i] (List.getElem_mem hi)
        have e : vs[i].cells = #[vs[i]] := by cases hv : vs[i] <;> simp_all [Value.cells, Value.oneCell']
        rw [e]
        simp [hi]
      · have e : ∀ (l : List Value) (k : Nat), k ≤ l.length → (((l.map fun v => [v]).take k).flatten).length = k := by
          intro l
          induction l with
          | nil => intro k hk; simp at hk; subst hk; rfl
          | cons a l ih =>
            intro k hk
            cases k with
            | zero => rfl
            | succ k => simp at hk; simp [ih k hk]
        have e2 := e vs i (by omega)
        simp only [List.length_nil, Nat.zero_add, Nat.mul_one]
        rw [e2]
        simp [hi]
    · rw [e]; omega
  simp only [List.nil_append, e] at hfill
  refine ⟨.slice (some ⟨w.heap.size, 0, none⟩) len len, w.alloc (cl vs E), ?_, w.heap.size, rfl, hS.alloc _⟩
  have n1 : ¬ (len * 1 > 2 ^ 24) := by simp; omega
  by_cases h0 : len * 1 = 0
  · have hf := hfill [] (by simp; omega)
    have hlen0 : len = 0 := by omega
    simp only [execOp, Instr.buildSlice, Sem.run_bind, run_underlying hT, Result.andThen_ok, run_sizeOf hE, hp', h0]
    subst hlen0
    obtain rfl : vs = [] := List.eq_nil_of_length_eq_zero hl
    simp [Instr.fill, newRow]
    congr 2
    apply Array.ext'
    simp
  · have hz : (zeroValue E).run P w = .ok zv w := by simp [zeroValue, typeInfo, program, Sem.run, hi, h3]
    have hf := hfill ((Array.range (len * 1)).map (zv.cells[· % zv.cells.size]!)).toList (by simp)
    simp only [Array.toArray_toList] at hf
    simp only [execOp, Instr.buildSlice, Sem.run_bind, run_underlying hT, Result.andThen_ok, run_sizeOf hE, hp', n1, if_false, h0, hz, hf, newRow, Sem.run_pure]
    simp [hf, newRow]

/-! ### Equality of arrays of numbers -/
def eqElems (d : Nat) (E : TypeId) (n : Nat) (xs ys : Array Value) : List Nat → Sem Bool
  | [] => pure true
  | i :: is => do
    let a ← part E xs (i * n)
    let b ← part E ys (i * n)
    let r ← Op.equalIn d E a b
    if (!r) = true then pure false else eqElems d E n xs ys is

theorem run_equalIn_array (d len : Nat) (xs ys : Array Value) (ht : P.underlying T = some (.array len E)) (hE : TI P E dE sz bts zv) :
    (Op.equalIn (d + 1) T (.agg xs) (.agg ys)).run P w = (eqElems d E sz xs ys (List.range len)).run P w := by
  simp only [Op.equalIn, Sem.run_bind, run_underlying ht, Result.andThen_ok, run_sizeOf hE]
  rw [Std.Legacy.Range.forIn_eq_forIn_range']
  simp only [Std.Legacy.Range.size]
  rw [show (len - 0 + 1 - 1) / 1 = len from by simp, ← List.range_eq_range']
  generalize List.range len = is
  induction is generalizing w with
  | nil => simp [eqElems]
  | cons i is ih =>
    simp only [List.forIn_cons, eqElems, Sem.run_bind, Sem.run_ite]
    generalize (part E xs (i * sz)).run P w = r1
    cases r1 with
    | halt x w2 => simp [Result.andThen]
    | ok a w1 =>
      simp only [Result.andThen_ok]
      generalize (part E ys (i * sz)).run P w1 = r2
      cases r2 with
      | halt x w2 => simp [Result.andThen]
      | ok b w2 =>
        simp only [Result.andThen_ok]
        generalize (Op.equalIn d E a b).run P w2 = r3
        cases r3 with
        | halt x w3 => simp [Result.andThen]
        | ok r w3 =>
          cases r
          · simp only [Result.andThen_ok, Bool.not_false, if_true, Sem.run_pure]
          · simp only [Result.andThen_ok, Bool.not_true, Bool.false_eq_true, if_false, Sem.run_pure]
            exact ih

theorem run_eqElems_ints {kk : IntKind} (hE : TI P E (.int kk) 1 bts zv) (d : Nat) (xs ys : List Int) : ∀ (m i : Nat), i + m = xs.length → i + m = ys.length →
    (eqElems (d + 1) E 1 (xs.map (Value.int kk)).toArray (ys.map (Value.int kk)).toArray (List.range' i m)).run P w = .ok (decide (xs.drop i = ys.drop i)) w := by
  intro m
  induction m with
  | zero => intro i h1 h2; simp at h1 h2; simp [eqElems]; rw [List.drop_of_length_le (by omega), List.drop_of_length_le (by omega)]
  | succ m ih =>
    intro i h1 h2
    have hi1 : i < xs.length := by omega
    have hi2 : i < ys.length := by omega
    have ih' := ih (i + 1) (by omega) (by omega)
    have p1 : (part E (xs.map (Value.int kk)).toArray (i * 1)).run P w = .ok (.int kk xs[i]) w := by simp [part, run_isAgg hE.und, aggD, hi1]
    have p2 : (part E (ys.map (Value.int kk)).toArray (i * 1)).run P w = .ok (.int kk ys[i]) w := by simp [part, run_isAgg hE.und, aggD, hi2]
    rw [List.range'_succ]
    simp only [eqElems, Sem.run_bind, p1, p2, Result.andThen_ok, run_equalIn_int w d E kk kk _ _ hE.und, Sem.run_ite, ih']
    rw [List.drop_eq_getElem_cons hi1, List.drop_eq_getElem_cons hi2]
    by_cases he : xs[i] = ys[i]
    · have hb : (xs[i] == ys[i]) = true := by simpa using he
      rw [hb]
      simp only [Bool.not_true, Bool.false_eq_true, if_false]
      congr 1
      exact decide_eq_decide.2 (by rw [List.cons.injEq]; exact ⟨fun h => ⟨he, h⟩, fun h => h.2⟩)
    · have hb : (xs[i] == ys[i]) = false := by simpa using he
      rw [hb]
      simp only [Bool.not_false, if_true, Sem.run_pure]
      congr 1
      exact (decide_eq_false (by rw [List.cons.injEq]; exact fun h => he h.1)).symm

theorem run_eqA_ints {kk : IntKind} {len : Nat} (hT : P.underlying T = some (.array len E)) (hE : TI P E (.int kk) 1 bts zv) (d : Nat) (xs ys : List Int) (h1 : xs.length = len) (h2 : ys.length = len) :
    (Op.equalIn (d + 2) T (.agg (xs.map (Value.int kk)).toArray) (.agg (ys.map (Value.int kk)).toArray)).run P w = .ok (decide (xs = ys)) w := by
  rw [run_equalIn_array (w := w) (d + 1) len _ _ hT hE, List.range_eq_range', run_eqElems_ints hE d xs ys len 0 (by omega) (by omega)]
  simp

/-- What an equality of two values of a type comes to. -/
def EqIs (P : Program) (T : TypeId) (u v : Value) (p : Prop) [Decidable p] : Prop := ∀ d w, (Op.equalIn (d + 100) T u v).run P w = .ok (decide p) w

theorem eqIs_b8 {len : Nat} (hT : P.underlying T = some (.array len E)) (hE : TI P E (.int .u8) 1 bts zv) (xs ys : List UInt8) (h1 : xs.length = len) (h2 : ys.length = len) : EqIs P T (.agg (xs.map b8).toArray) (.agg (ys.map b8).toArray) (xs = ys) := by
  intro d w
  have := run_eqA_ints (w := w) hT hE (d + 98) (xs.map fun c => (c.toNat : Int)) (ys.map fun c => (c.toNat : Int)) (by simpa using h1) (by simpa using h2)
  simp only [List.map_map] at this
  rw [show d + 100 = d + 98 + 2 from rfl]
  have e : ∀ l : List UInt8, l.map (Value.int IntKind.u8 ∘ fun c => (c.toNat : Int)) = l.map b8 := fun l => rfl
  rw [e, e] at this
  rw [this]
  congr 1
  have hinj : (xs.map (fun c => (c.toNat : Int)) = ys.map fun c => (c.toNat : Int)) ↔ xs = ys := by
    constructor
    · intro h
      exact List.map_inj_right (fun a b hab => UInt8.toNat_inj.1 (by exact_mod_cast hab)) |>.1 h
    · intro h; rw [h]
  exact decide_eq_decide.2 hinj

theorem r_eqlA {u : Value} {p : Prop} [Decidable p] {as bs : Array Value} (hg : P.eqGuardType P.depth T = false) (hx : ρ x = .agg as) (hy : ρ y = .agg bs) (h : EqIs P T (.agg as) (.agg bs) p) : (execOp ρ ⟨dst, .binOp .eql T x y T2, ty, pos, aft, g⟩).run P w = .ok (.value (.bool (decide p))) w := by
  have he : (eqGuard .eql T x y (.agg as) (.agg bs)).run P w = .ok () w := run_eqGuard_agg w .eql T x y as bs hg
  have h9 := h 9900 w
  simp [execOp, hx, hy, he, run_eql_struct, h9]
/-! ### Strings -/
theorem bytes_beq (s t : ByteArray) : (s.toList == t.toList) = decide (s = t) := by
  rw [ByteArray.toList_eq, ByteArray.toList_eq]
  by_cases h : s = t
  · subst h; simp
  · have hn : ¬ s.data.toList = t.data.toList := by
      intro hh
      apply h
      obtain ⟨⟨x⟩⟩ := s
      obtain ⟨⟨y⟩⟩ := t
      simp only at hh
      subst hh
      rfl
    rw [decide_eq_false h]
    simpa using hn
theorem r_eqlStr {s t : ByteArray} (hx : ρ x = .string s) (hy : ρ y = .string t) : (execOp ρ ⟨dst, .binOp .eql T x y T2, ty, pos, aft, g⟩).run P w = .ok (.value (.bool (decide (s = t)))) w := by
  have he : (eqGuard .eql T x y (.string s) (.string t)).run P w = .ok () w := by unfold eqGuard; simp
  have e := bytes_beq s t
  simp only [execOp, hx, hy, Sem.run_bind, he, Result.andThen_ok, binOp, Op.stringOp, e, Sem.run_pure]
theorem r_neqStr {s t : ByteArray} (hx : ρ x = .string s) (hy : ρ y = .string t) : (execOp ρ ⟨dst, .binOp .neq T x y T2, ty, pos, aft, g⟩).run P w = .ok (.value (.bool (decide (¬ s = t)))) w := by
  have he : (eqGuard .neq T x y (.string s) (.string t)).run P w = .ok () w := by unfold eqGuard; simp
  have e := bytes_beq s t
  simp only [execOp, hx, hy, Sem.run_bind, he, Result.andThen_ok, binOp, Op.stringOp, e, Sem.run_pure, decide_not]

theorem run_bytesFrom (f : Value → ByteArray → Sem (ForInStep ByteArray)) (hf : ∀ (c : UInt8) (s : ByteArray), f (b8 c) s = pure (ForInStep.yield (s.push c))) : ∀ (l : List UInt8) (s : ByteArray),
    (forIn (m := Sem) (l.map b8) s f).run P w = .ok ⟨(s.data.toList ++ l).toArray⟩ w := by
  intro l
  induction l with
  | nil => intro s; simp
  | cons c l ih =>
    intro s
    simp only [List.map_cons, List.forIn_cons, Sem.run_bind, hf, Sem.run_pure, Result.andThen_ok]
    rw [ih (s.push c)]
    simp [ByteArray.push]

/-- string(b). -/
theorem r_bytesToStr {E' : TypeId} {bs : List UInt8} {c n : Nat} (hT : P.underlying T = some .string) (hT2 : P.underlying T2 = some (.slice E')) (hE : P.underlying E' = some (.int .u8)) (hx : ρ x = .slice a n c) (hr : Row w a (bs.map b8)) (hn : bs.length = n) :
    (execOp ρ ⟨dst, .convert T2 T x, ty, pos, aft, g⟩).run P w = .ok (.value (.string ⟨bs.toArray⟩)) w := by
  subst hn
  cases a with
  | none =>
    have hb : bs = [] := by
      rcases hr with h | ⟨b, o, h, _⟩
      · simpa using h
      · cases h
    subst hb
    simp [execOp, convert, run_underlying hT, run_underlying hT2, run_underlying hE, hx, Conv.bytesToString]
    rfl
  | some p =>
    have hl : (loadCells p bs.length).run P w = .ok (bs.map b8).toArray w := by
      rcases hr with h | ⟨b, o, h, hA⟩
      · have hb : bs = [] := by simpa using h
        subst hb
        simp [loadCells, loadCellsFrom]
      · obtain rfl := Option.some.inj h
        have := run_loadCells_list (P := P) w ⟨b, o, none⟩ (bs.map b8) (fun j v hv => by rw [add_lit]; exact hA j v hv)
        simpa using this
    simp only [execOp, convert, Sem.run_bind, run_underlying hT, run_underlying hT2, run_underlying hE, Result.andThen_ok, hx, Conv.bytesToString, hl, List.forIn_toArray]
    rw [run_bytesFrom _ (fun c s => by show pure (ForInStep.yield (s.push (UInt8.ofNat c.toNat))) = _; rw [UInt8.ofNat_toNat])]
    simp

theorem St.rowAt {n c : Nat} {xs : List Value} (h : St w0 M w L) (hx : Item.row (.slice a n c) E sz n xs ∈ L) : Row w a xs := by
  obtain ⟨a', c', hv, hr, _, _⟩ := row_at (h.has _ hx).1
  simp only [Value.slice.injEq] at hv
  rw [hv.1]; exact hr
theorem St.rowLen {n c : Nat} {xs : List Value} (h : St w0 M w L) (hx : Item.row (.slice a n c) E sz n xs ∈ L) : n ≤ c ∧ xs.length = n * sz := by
  obtain ⟨a', c', hv, hr, hc, hl⟩ := row_at (h.has _ hx).1
  simp only [Value.slice.injEq] at hv
  rw [hv.2.2]; exact ⟨hc, hl⟩
end

/-- A cut behind the first of two: what holds of the slots and of memory where the ways meet. -/
theorem c_cutE {P : Program} {Q : Exit → Act → World → Prop} {n : Nat} {e0 : Env} {w : World} {x y : Code} (S : List Nat) (J : Env → World → Prop)
    (h : x.wp P (Exit.then (fun a' w' => ∃ e', a' = act n e' ∧ J e' w' ∧ Keep e0 e' S) Q) (act n e0) w) (hy : ∀ e w, J e w → Keep e0 e S → y.wp P Q (act n (again' e0 e S)) w) : (Code.seq x y).wp P Q (act n e0) w := by
  refine c_cut _ h ?_
  rintro a w ⟨e, rfl, hJ, hk⟩
  rw [← act_congr n _ _ (look_again' e0 e S hk)]
  exact hy e w hJ hk
end Go.Kw
