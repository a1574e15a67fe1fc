/- What the law's proof leans on. No condition. -/
import Derived.Test.YtjnnhlbfgnopiaaGreatDoorPCAE
import Derived.Test.YtjnnhlbfgnopiaaGreatDoorPCAC
import Derived.Laws.Cover3
import Derived.Laws.Pointers
import Derived.Laws.Small
section
namespace Go.Kw
set_option linter.unusedVariables false
set_option linter.unusedSimpArgs false
section
variable {P : Program} {ρ : Operand → Value} {w w0 : World} {M : List Nat} {L l1 l2 : List Item} {dst : Option Tmp} {ty : TypeId} {pos : String} {aft : Array Edge} {g : Option (Nat × Bool)} {x y z : Operand} {T T2 E I : TypeId} {v : Value} {k : IntKind}
  {d dE : TypeDesc} {sz bts b o : Nat} {zv : Value} {a : Option Addr} {cs C : List Value}

theorem none_dec (a : Option Addr) : a.isNone = decide (a = none) := by cases a <;> rfl
theorem run_eqlSn (t e : TypeId) (a : Option Addr) (l c : Nat) (h : P.underlying t = some (.slice e)) : (binOp .eql t (.slice a l c) (.slice none 0 0)).run P w = .ok (.bool a.isNone) w := by
  simp only [binOp]
  simp [run_equal_slice_nil w t e a l c h]
/-- s == nil. -/
theorem r_eqlSn {n c : Nat} (hT : P.underlying T = some (.slice E)) (hx : ρ x = .slice a n c) (hy : ρ y = .slice none 0 0) : (execOp ρ ⟨dst, .binOp .eql T x y T2, ty, pos, aft, g⟩).run P w = .ok (.value (.bool (decide (a = none)))) w := by
  have he : (eqGuard .eql T x y (.slice a n c) (.slice none 0 0)).run P w = .ok () w := by unfold eqGuard; simp
  simp only [execOp, hx, hy, Sem.run_bind, he, Result.andThen_ok, run_eqlSn T E a n c hT, Sem.run_pure, none_dec]
theorem r_eqlBool {p q : Bool} (hT : P.underlying T = some .bool) (hx : ρ x = .bool p) (hy : ρ y = .bool q) : (execOp ρ ⟨dst, .binOp .eql T x y T2, ty, pos, aft, g⟩).run P w = .ok (.value (.bool (decide (p = q)))) w := by
  have he : (eqGuard .eql T x y (.bool p) (.bool q)).run P w = .ok () w := by unfold eqGuard; simp
  simp only [execOp, hx, hy, Sem.run_bind, he, Result.andThen_ok, run_eql_bool w T p q hT, Sem.run_pure]
  cases p <;> cases q <;> rfl
theorem r_neqBool {p q : Bool} (hT : P.underlying T = some .bool) (hx : ρ x = .bool p) (hy : ρ y = .bool q) : (execOp ρ ⟨dst, .binOp .neq T x y T2, ty, pos, aft, g⟩).run P w = .ok (.value (.bool (decide (¬ p = q)))) w := by
  have he : (eqGuard .neq T x y (.bool p) (.bool q)).run P w = .ok () w := by unfold eqGuard; simp
  simp only [execOp, hx, hy, Sem.run_bind, he, Result.andThen_ok, run_neq_bool w T p q hT, Sem.run_pure]
  cases p <;> cases q <;> rfl

/-- T{} of an array. -/
theorem r_build0 {len : Nat} {cs : List Value} (hT : P.underlying T = some (.array len E)) (hZ : TI P T d sz bts (.agg cs.toArray)) (hE : TI P E dE o b zv) :
    (execOp ρ ⟨dst, .build T #[], ty, pos, aft, g⟩).run P w = .ok (.value (.agg cs.toArray)) w := by
  obtain ⟨i, hi, _, _, h3⟩ := hZ.info
  have hz : (zeroValue T).run P w = .ok (.agg cs.toArray) w := by simp [zeroValue, typeInfo, program, Sem.run, hi, h3]
  simp [execOp, Instr.build, hz, run_underlying hT, run_sizeOf hE, Instr.fill, Value.cells]

end
theorem made_one {v : Value} (hv : v.oneCell' = true) (n : Nat) : madeCells v.cells n = (List.replicate n v).toArray := by
  have e : v.cells = #[v] := by cases v <;> simp_all [Value.cells, Value.oneCell']
  rw [e]
  apply Array.ext'
  apply List.ext_getElem
  · simp [madeCells]
  · intro i h1 h2
    simp [madeCells, Nat.mod_one]
theorem made_b8 (n : Nat) : madeCells (Value.int .u8 0).cells n = ((List.replicate n (0 : UInt8)).map b8).toArray := by
  rw [made_one rfl, List.map_replicate]; rfl
/-! Cuts behind two statements, and behind three. -/
section
variable {P : Program} {Q : Exit → Act → World → Prop} {n : Nat} {e0 : Env} {w : World} {x y u z : Code}
end
end Go.Kw
end
section
namespace Go.Kw
set_option linter.unusedVariables false
set_option linter.unusedSimpArgs false
section
variable {P : Program} {ρ : Operand → Value} {w w0 : World} {M : List Nat} {L l1 l2 : List Item} {dst : Option Tmp} {ty : TypeId} {pos : String} {aft : Array Edge} {g : Option (Nat × Bool)} {x y z : Operand} {T T2 E I : TypeId} {v : Value} {k : IntKind}
  {d dE : TypeDesc} {sz bts b o : Nat} {zv : Value} {a : Option Addr} {cs C : List Value}

theorem r_shri {k2 : IntKind} {a s : Nat} (hx : ρ x = vi a) (hy : ρ y = .int k2 (s : Int)) (hs : s ≤ 64) : (execOp ρ ⟨dst, .binOp .shr T x y T2, ty, pos, aft, g⟩).run P w = .ok (.value (vi (a / 2 ^ s))) w := by
  refine r_shr hx hy ?_
  rw [show IntKind.bits .i64 = 64 from rfl, Nat.min_eq_left hs, Int.fdiv_eq_ediv_of_nonneg _ (Int.le_of_lt (Int.pow_pos (by decide)))]
  norm_cast
/-- An element behind a slice of a known block. -/
theorem r_ixB {len cap m : Nat} (h : P.underlying T = some (.slice E)) (hE : TI P E dE 1 bts zv) (hx : ρ x = .slice (some ⟨b, 0, none⟩) len cap) (hy : ρ y = .int k (m : Int)) (hm : m < len) :
    (execOp ρ ⟨dst, .indexAddr T x y, ty, pos, aft, g⟩).run P w = .ok (.value (pt b m)) w := by
  have h0 : (0 : Int) ≤ (m : Int) ∧ (m : Int) < (len : Int) := by omega
  simp [execOp, hx, hy, Instr.indexAt, asIntOf, run_underlying h, run_sizeOf hE, hm, add_lit]
/-- append(s, make([]T, m)...) behind an owned row that is not empty, m > 0. -/
theorem x_appendZ {n m : Nat} {xs : List Value} (l1 : List Item) {l2 : List Item} (hS : St w0 M w (l1 ++ .row v E sz n xs :: l2)) (hT : P.underlying T = some (.slice E)) (hE : TI P E dE sz bts zv) (hI : P.underlying I = some (.int .i64)) (hz : zv.cells.size = sz) (hz1 : One (Builtin.zeroCells zv.cells m).toList) (hsz : 0 < sz)
    (hx : ρ x = v) (hy : ρ y = vi m) (hn0 : 0 < n) (h0 : 0 < m) (hb : (n + m) * bts ≤ 140737488355328) (h63 : n + m ≤ 9223372036854775807) (args : Array Operand) (ha : args = #[x, y]) :
    ∃ u w', (execOp ρ ⟨dst, .call { callee := .builtin .append, args := args, argTypes := #[T, I] }, ty, pos, aft, g⟩).run P w = .ok (.value u) w' ∧
      ∃ a' c', u = .slice a' (n + m) c' ∧ n + m ≤ c' ∧ St w0 M w' (l1 ++ .row (.slice a' (n + m) c') E sz (n + m) (xs ++ (Builtin.zeroCells zv.cells m).toList) :: l2) := by
  subst ha
  obtain ⟨i, hi, hs1, hs2, hs3⟩ := hE.info
  subst hs1; subst hs2
  have hit := hS.has (.row v E i.size n xs) (by simp)
  have hown := hit.1
  have hzl : (Builtin.zeroCells zv.cells m).toList.length = m * i.size := by rw [Array.length_toList, size_zeroCells, hz]
  have hlen : (xs ++ (Builtin.zeroCells zv.cells m).toList).length = (n + m) * i.size := by rw [List.length_append, hown.1, hzl, Nat.add_mul]
  have hnn : ¬ ((m : Int) < 0) := by omega
  have hw : IntKind.i64.wrap (m : Int) = m := by unfold IntKind.wrap; simp [IntKind.bits, IntKind.signed]; omega
  have hbm : m * i.bytes ≤ (n + m) * i.bytes := Nat.mul_le_mul_right _ (by omega)
  have hby : ¬ (281474976710656 < (m : Int) * (i.bytes : Int)) := by rw [← Int.natCast_mul]; omega
  have hai : ∀ W, (asIntOf (vi m)).run P W = .ok (.i64, (m : Int)) W := fun _ => rfl
  have hms : ¬ m * i.size = 0 := Nat.ne_of_gt (Nat.mul_pos h0 hsz)
  have hsz' : ¬ i.size = 0 := by omega
  have hm' : m ≠ 0 := by omega
  rcases hown.2 with ⟨hv, hn⟩ | ⟨gq, cap, cur, hv, _, hg, hnc, hcm, hcs, htake⟩
  · omega
  subst hv
  by_cases hroom : n + m ≤ cap
  · have hfit : n * i.size + (Builtin.zeroCells zv.cells m).toList.length ≤ cur.size := by rw [hzl, hcs, ← Nat.add_mul]; exact Nat.mul_le_mul_right _ hroom
    have hst := run_storeCells_at P gq (n * i.size) E (Builtin.zeroCells zv.cells m).toList 0 cur w hg (by simpa using hfit) hz1
    simp only [Nat.add_zero] at hst
    refine ⟨.slice (some ⟨gq, 0, none⟩) (n + m) cap, w.setRow gq (List.take (n * i.size) cur.toList ++ (Builtin.zeroCells zv.cells m).toList ++ List.drop (n * i.size + (Builtin.zeroCells zv.cells m).toList.length) cur.toList).toArray, ?_, _, _, rfl, hroom, ?_⟩
    · simp [execOp, resolve, invoke, builtin, hx, hy, Builtin.append_, run_underlying hT, run_underlying hI, sizeOf, typeInfo, zeroValue, hi, hs3, hw, hnn, hby, asInt, hai, hroom, hsz', hm', Addr.add_lit, hst]
      intro h; exact absurd h hms
    refine hS.turnAt rfl rfl rfl (by simp) (fun k hk hne => setRow_other w gq k _ (fun e => hne (by simp [Item.id, Value.ownBlock, e]))) ?_ (fun k hk => .inl (by simpa [Item.id, Value.ownBlock] using hk))
    refine ⟨⟨hlen, .inr ⟨gq, cap, _, rfl, Nat.zero_le _, setRow_heap w gq cur _ E _ hg, hroom, hcm, ?_, ?_⟩⟩, ?_⟩
    · simp only [List.size_toArray, List.length_append, List.length_take, List.length_drop, Array.length_toList]
      simp only [Array.length_toList] at hfit
      omega
    · rw [htake, ← hlen]
      exact List.take_left
    · intro g' hg'
      exact hit.2 g' (by simpa [Value.ownBlock] using hg')
  · have hroom' : ¬ n + m ≤ cap := hroom
    have hge := grownCap_ge w (n + m) cap E
    have hf : ∀ W, W.heap = w.heap → (Builtin.firstCells i.size n (.slice (some ⟨gq, 0, none⟩) n cap)).run P W = .ok xs.toArray W := fun W hW =>
      run_firstCells_some (P := P) W i.size n ⟨gq, 0, none⟩ n cap xs hown.1 (fun j u hu => by
        have := hown.cells (g := gq) rfl j u hu
        simpa [World.cell?, hW] using this)
    have h63' : ¬ (9223372036854775807 < (n : Int) + (m : Int)) := by omega
    have h48' : ¬ (281474976710656 < Builtin.nextslicecap (n + m) cap * i.bytes) := by have := growslice_fits (need := n + m) (old := cap) (bytes := i.bytes) (by omega) hb; omega
    refine ⟨.slice (some ⟨w.heap.size, 0, none⟩) (n + m) (grownCap w (n + m) cap E), w.drew.alloc (.cells (xs.toArray ++ Builtin.zeroCells zv.cells m ++ Builtin.zeroCells zv.cells (grownCap w (n + m) cap E - (n + m))) E), ?_, _, _, rfl, hge, ?_⟩
    · simp [execOp, resolve, invoke, builtin, hx, hy, Builtin.append_, run_underlying hT, run_underlying hI, sizeOf, typeInfo, zeroValue, hi, hs3, hw, hnn, hby, asInt, hai, hroom', hsz', hm', h63', h48', Question.forced, hf w.drew rfl, newRow, grownCap]
      intro h; exact absurd h hms
    · refine hS.turnAt rfl rfl rfl (by simp) (fun k hk _ => heap_alloc_old w.drew _ k hk) ?_ (fun k hk => .inr ?_)
      · refine ⟨⟨hlen, .inr ⟨w.heap.size, _, _, rfl, Nat.zero_le _, heap_alloc_new w.drew _, hge, grownCap_le_maxLen w (n + m) cap E (by simpa [maxLen] using h63), ?_, ?_⟩⟩, ?_⟩
        · simp only [Array.size_append, List.size_toArray, size_zeroCells, hz, hown.1, ← Nat.add_mul]
          congr 1
          omega
        · simp only [Array.toList_append, List.append_assoc]
          rw [← List.append_assoc, ← hlen]
          exact List.take_left
        · intro g hg
          simp only [Value.ownBlock, Option.some.injEq] at hg
          subst hg
          exact .inl hS.size
      · simp only [Item.id, Value.ownBlock, Option.some.injEq] at hk
        omega
end
theorem one_all {cs : List Value} (h : cs.all Value.oneCell' = true) : One cs := by
  intro c hc
  exact List.all_eq_true.1 h c hc
/-! Items held shut. -/
theorem St.frame {w0 w : World} {M : List Nat} (us rs : List Item) (h : St w0 M w (us ++ rs)) : ∃ LT, LT = rs ∧ St w0 M w (us ++ LT) := ⟨rs, rfl, h⟩
theorem at_takem {w : World} {b n : Nat} {α : Type} {f : α → Value} {us : List α} {E : TypeId} {fr : Nat × Nat} (h : w.heap[b]? = some (.cells (us.map f).toArray E fr)) : At w b 0 ((us.take n).map f) := by
  have := at_part (off := 0) (n := n) h
  simpa [List.map_take] using this
theorem splice0 {α : Type} (ws us : List α) (h : us.length = ws.length) : splice ws 0 us = us := by simp [splice, h]
section
variable {P : Program} {ρ : Operand → Value} {w w0 : World} {M : List Nat} {L l1 l2 : List Item} {dst : Option Tmp} {ty : TypeId} {pos : String} {aft : Array Edge} {g : Option (Nat × Bool)} {x y z : Operand} {T T2 E I : TypeId} {v : Value} {k : IntKind}
  {d dE : TypeDesc} {sz bts b o : Nat} {zv : Value} {a : Option Addr} {cs C : List Value}
end
section
variable {P : Program} {ρ : Operand → Value} {w w0 : World} {M : List Nat} {L l1 l2 : List Item} {dst : Option Tmp} {ty : TypeId} {pos : String} {aft : Array Edge} {g : Option (Nat × Bool)} {x y z : Operand} {T T2 E I : TypeId} {v : Value} {k : IntKind}
  {d dE : TypeDesc} {sz bts b o : Nat} {zv : Value} {a : Option Addr} {cs C : List Value}
/-- []T{..} of elements of sz cells, all said. -/
theorem x_litN {parts : Array (Nat × Operand)} {vs : List Value} {css : List (List Value)} {len : Nat} (hS : St w0 M w L) (hT : P.underlying T = some (.slice E)) (hE : TI P E dE sz bts zv) (hp : parts.toList.map (fun x => (x.1, ρ x.2)) = vs.zipIdx.map (fun x => (x.2, x.1))) (hl : vs.length = len)
    (hcl : css.length = len) (hcs : ∀ i, i < len → ((vs.getD i undef).cells = (css.getD i []).toArray ∧ (css.getD i []).length = sz)) (hzc : zv.cells.size = sz) (hlen : len * sz ≤ 16777216) (h0 : 0 < len * sz) :
    ∃ v w', (execOp ρ ⟨dst, .buildSlice T len parts, ty, pos, aft, g⟩).run P w = .ok (.value v) w' ∧ ∃ b, v = .slice (some ⟨b, 0, none⟩) len len ∧ St w0 M w' (.blk b (cl css.flatten E) :: L) := by
  obtain ⟨i, hi, hs1, _, h3⟩ := hE.info
  have hp' : (parts.map fun (x : Nat × Operand) => (x.1, ρ x.2)).toList = vs.zipIdx.map (fun x => (x.2, x.1)) := by simpa using hp
  have hfl : ∀ (l : List (List Value)) (k : Nat), k ≤ l.length → (∀ j, j < l.length → (l.getD j []).length = sz) → ((l.take k).flatten).length = k * sz := by
    intro l
    induction l with
    | nil => intro k hk _; simp at hk; subst hk; simp
    | cons a l ih =>
      intro k hk h
      cases k with
      | zero => simp
      | succ k =>
        have ha := h 0 (by simp)
        have := ih k (by simpa using hk) (fun j hj => by have := h (j + 1) (by simpa using hj); simpa using this)
        simp only [List.getD_cons_zero] at ha
        rw [List.take_succ_cons, List.flatten_cons, List.length_append, this, ha, Nat.succ_mul]; omega
  have hfill : ∀ zs : List Value, zs.length = len * sz → Instr.fill (fun i => some (i * sz, sz)) ([] ++ zs).toArray (vs.zipIdx.map (fun x => (x.2, x.1))) = some ([] ++ css.flatten).toArray := by
    intro zs hzs
    refine fill_all _ _ css [] _ (by simp [hl, hcl]) ?_ ?_
    · intro i hi
      simp at hi
      have hi' : i < len := by omega
      refine ⟨i, vs.getD i undef, by simp [hi], (hcs i hi').1, ?_⟩
      rw [hfl css i (by omega) (fun j hj => (hcs j (by omega)).2), (hcs i hi').2]
      simp
    · have := hfl css css.length (Nat.le_refl _) (fun j hj => (hcs j (by omega)).2)
      rw [List.take_length] at this
      rw [this, hzs, hcl]
  simp only [List.nil_append] at hfill
  refine ⟨.slice (some ⟨w.heap.size, 0, none⟩) len len, w.alloc (cl css.flatten E), ?_, w.heap.size, rfl, hS.alloc _⟩
  have n1 : ¬ (len * sz > 2 ^ 24) := by simp; omega
  have n0 : ¬ len * sz = 0 := by omega
  have hz : (zeroValue E).run P w = .ok zv w := by simp [zeroValue, typeInfo, program, Sem.run, hi, h3]
  have hf := hfill ((Array.range (len * sz)).map (zv.cells[· % zv.cells.size]!)).toList (by simp)
  simp only [Array.toArray_toList] at hf
  simp only [execOp, Instr.buildSlice, Sem.run_bind, run_underlying hT, Result.andThen_ok, run_sizeOf hE, hp', n1, if_false, n0, hz, hf, newRow, Sem.run_pure]
  simp [hf, newRow]
/-- .. of one array. -/
theorem x_litA1 {parts : Array (Nat × Operand)} {as : List Value} (hS : St w0 M w L) (hT : P.underlying T = some (.slice E)) (hE : TI P E dE sz bts zv) (hp : parts.toList.map (fun x => (x.1, ρ x.2)) = [(0, .agg as.toArray)]) (hl : as.length = sz) (hzc : zv.cells.size = sz) (hlen : sz ≤ 16777216) (h0 : 0 < sz) :
    ∃ v w', (execOp ρ ⟨dst, .buildSlice T 1 parts, ty, pos, aft, g⟩).run P w = .ok (.value v) w' ∧ ∃ b, v = .slice (some ⟨b, 0, none⟩) 1 1 ∧ St w0 M w' (.blk b (cl as E) :: L) := by
  have h := x_litN (dst := dst) (ty := ty) (pos := pos) (aft := aft) (g := g) (vs := [.agg as.toArray]) (css := [as]) (len := 1) hS hT hE (by simpa using hp) rfl rfl (fun i hi => by
    obtain rfl : i = 0 := Nat.lt_one_iff.1 hi
    exact ⟨rfl, by simpa using hl⟩) hzc (by omega) (by omega)
  simpa using h
end
/-! Records that are built. -/
def placesOf (P : Program) (t : TypeId) : Option (List (Nat × Nat)) :=
  match P.underlying t with
  | some (.struct fs) => fs.toList.mapM fun f => (P.info? f.type).map fun i => (f.offset, i.size)
  | _ => none
section
variable {P : Program} {ρ : Operand → Value} {w w0 : World} {M : List Nat} {L l1 l2 : List Item} {dst : Option Tmp} {ty : TypeId} {pos : String} {aft : Array Edge} {g : Option (Nat × Bool)} {x y z : Operand} {T T2 E I : TypeId} {v : Value} {k : IntKind}
  {d dE : TypeDesc} {sz bts b o : Nat} {zv : Value} {a : Option Addr} {cs C : List Value}
theorem run_places : ∀ (l : List Field) (pl : List (Nat × Nat)), (l.mapM fun f => (P.info? f.type).map fun i => (f.offset, i.size)) = some pl → (l.mapM (fun (f : Field) => do pure (f.offset, ← sizeOf f.type) : Field → Sem (Nat × Nat))).run P w = .ok pl w := by
  intro l
  induction l with
  | nil =>
    intro pl h
    simp only [List.mapM_nil, Option.pure_def, Option.some.injEq] at h
    subst h
    rfl
  | cons f l ih =>
    intro pl h
    simp only [List.mapM_cons, Option.bind_eq_bind, Option.bind_eq_some_iff, Option.pure_def, Option.map_eq_some_iff, Option.some.injEq] at h
    obtain ⟨_, ⟨i, hi, rfl⟩, pl', h2, rfl⟩ := h
    have hs : (sizeOf f.type).run P w = .ok i.size w := by simp [sizeOf, typeInfo, program, Sem.run, hi]
    simp only [List.mapM_cons, Sem.run_bind, hs, Result.andThen_ok, Sem.run_pure, ih pl' h2]
theorem placesOf_run {pl : List (Nat × Nat)} (h : placesOf P T = some pl) : ∃ fs : Array Field, P.underlying T = some (.struct fs) ∧ (fs.mapM (fun (f : Field) => do pure (f.offset, ← sizeOf f.type) : Field → Sem (Nat × Nat))).run P w = .ok pl.toArray w := by
  unfold placesOf at h
  split at h
  · rename_i fs hu
    refine ⟨fs, hu, ?_⟩
    have := run_places (P := P) (w := w) _ _ h
    rw [Array.mapM_eq_mapM_toList]
    refine (Sem.run_bind' P _ (Sem.pure ∘ List.toArray) w).trans ?_
    rw [this]
    rfl
  · cases h
/-- T{} of a record. -/
theorem r_buildZ {pl : List (Nat × Nat)} (hp : placesOf P T = some pl) (hZ : TI P T d sz bts (.agg cs.toArray)) :
    (execOp ρ ⟨dst, .build T #[], ty, pos, aft, g⟩).run P w = .ok (.value (.agg cs.toArray)) w := by
  obtain ⟨fs, hT, hr⟩ := placesOf_run (w := w) hp
  exact r_build hT hZ hr (ps := []) (by simp) (by simp [Instr.fill, Value.cells])
end
section
variable {P : Program} {ρ : Operand → Value} {w w0 : World} {M : List Nat} {L l1 l2 : List Item} {dst : Option Tmp} {ty : TypeId} {pos : String} {aft : Array Edge} {g : Option (Nat × Bool)} {x y z : Operand} {T T2 E I : TypeId} {v : Value} {k : IntKind}
  {d dE : TypeDesc} {sz bts b o : Nat} {zv : Value} {a : Option Addr} {cs C : List Value}
end
end Go.Kw
end
section
namespace Go.Kw
set_option linter.unusedVariables false
set_option linter.unusedSimpArgs false
section
variable {P : Program} {ρ : Operand → Value} {w w0 : World} {M : List Nat} {L l1 l2 : List Item} {dst : Option Tmp} {ty : TypeId} {pos : String} {aft : Array Edge} {g : Option (Nat × Bool)} {x y z : Operand} {T T2 E : TypeId} {v : Value} {k : IntKind}

theorem r_lenStrL {l : List UInt8} {tys : Array TypeId} (ht : tys[0]? = some T) (hT : P.underlying T = some .string) (hx : ρ x = .string ⟨l.toArray⟩) (args : Array Operand) (ha : args = #[x]) :
    (execOp ρ ⟨dst, .call { callee := .builtin .len, args := args, argTypes := tys }, ty, pos, aft, g⟩).run P w = .ok (.value (vi l.length)) w := r_lenStr ht hT hx args ha
theorem str_inj {a b : List UInt8} : ((⟨a.toArray⟩ : ByteArray) = ⟨b.toArray⟩) ↔ a = b := by
  constructor
  · intro h
    have := congrArg (fun s : ByteArray => s.data.toList) h
    simpa using this
  · intro h; rw [h]
theorem r_eqlStrL {a b : List UInt8} (hx : ρ x = .string ⟨a.toArray⟩) (hy : ρ y = .string ⟨b.toArray⟩) : (execOp ρ ⟨dst, .binOp .eql T x y T2, ty, pos, aft, g⟩).run P w = .ok (.value (.bool (decide (a = b)))) w := by
  rw [r_eqlStr hx hy]; simp only [str_inj]
theorem r_neqStrL {a b : List UInt8} (hx : ρ x = .string ⟨a.toArray⟩) (hy : ρ y = .string ⟨b.toArray⟩) : (execOp ρ ⟨dst, .binOp .neq T x y T2, ty, pos, aft, g⟩).run P w = .ok (.value (.bool (decide (¬ a = b)))) w := by
  rw [r_neqStr hx hy]; simp only [str_inj]
end

/-- What the world below says: nothing old has turned. -/
theorem St.of_below {w w' : World} (h : Go.RowKit.Below w.heap.size w w') : St w [] w' [] :=
  ⟨h.os, h.tape, h.output, h.size, fun k hk _ => h.block k hk, by simp, by simp⟩

/-- An octet that a name may hold. -/
def nameB (c : UInt8) : Bool := decide ((97 ≤ c.toNat ∧ c.toNat ≤ 122) ∨ (48 ≤ c.toNat ∧ c.toNat ≤ 57) ∨ c.toNat = 45 ∨ c.toNat = 46 ∨ c.toNat = 95)
/-- Is this a name. -/
def nameE (l : List UInt8) : Bool := l.all nameB && decide (¬ l = []) && decide (l.length ≤ 32)
theorem nameB_t {c : UInt8} (h : (97 ≤ c.toNat ∧ c.toNat ≤ 122) ∨ (48 ≤ c.toNat ∧ c.toNat ≤ 57) ∨ c.toNat = 45 ∨ c.toNat = 46 ∨ c.toNat = 95) : nameB c = true := by rw [nameB, decide_eq_true h]
theorem nameB_f {c : UInt8} (h : ¬ ((97 ≤ c.toNat ∧ c.toNat ≤ 122) ∨ (48 ≤ c.toNat ∧ c.toNat ≤ 57) ∨ c.toNat = 45 ∨ c.toNat = 46 ∨ c.toNat = 95)) : nameB c = false := by rw [nameB, decide_eq_false h]
theorem take_all_step {p : UInt8 → Bool} {l : List UInt8} {n : Nat} (hn : n < l.length) (h : (l.take n).all p = true) (hp : p (gt l n) = true) : (l.take (n + 1)).all p = true := by
  rw [List.take_add_one, List.all_append, h]
  have : l[n]? = some (gt l n) := by simp [gt, hn]
  simp [this, hp]
theorem nameE_f {l : List UInt8} {n : Nat} (hn : n < l.length) (hp : nameB (gt l n) = false) : nameE l = false := by
  have : l.all nameB = false := by
    rw [Bool.eq_false_iff]
    intro h
    have hm : gt l n ∈ l := by simp [gt, hn]
    have := List.all_eq_true.1 h _ hm
    rw [hp] at this; cases this
  simp [nameE, this]
end Go.Kw
end
section
namespace Go.Kw
set_option linter.unusedVariables false
set_option linter.unusedSimpArgs false

theorem toNat_cast {p : Int} (h : 0 ≤ p) : ((p.toNat : Nat) : Int) = p := Int.toNat_of_nonneg h

/-- Eight octets as a number. -/
def long8 (o : List UInt8) : UInt64 := (word4 (o.take 4)).toUInt64 <<< 32 ||| (word4 (o.drop 4)).toUInt64
theorem row_none {w : World} {cs : List Value} (h : Row w none cs) : cs = [] := by
  rcases h with h | ⟨_, _, h, _⟩
  · exact h
  · cases h
theorem nil_of_none {w : World} {a : Option Addr} {l : List UInt8} (h : Row w a (l.map b8)) (ha : a = none) : l = [] := by
  subst ha
  simpa using row_none h

/-- A slice as data: its place, its room and what lies in it. -/
structure Sl (α : Type) where
  a : Option Addr
  c : Nat
  xs : List α
instance {α : Type} : Inhabited (Sl α) := ⟨⟨none, 0, []⟩⟩
def Sl.v {α : Type} (s : Sl α) : Value := .slice s.a s.xs.length s.c
abbrev Piece := Sl UInt8
abbrev Piece.v (p : Piece) : Value := Sl.v p
def total (ps : List Piece) : Nat := (ps.map fun p => p.xs.length).sum
def joined (ps : List Piece) : List UInt8 := ps.flatMap (·.xs)
theorem total_take (ps : List Piece) (k : Nat) (h : k < ps.length) : total (ps.take (k + 1)) = total (ps.take k) + (gt ps k).xs.length := by
  rw [List.take_succ_eq_append_getElem h, gt_eq _ _ h]
  simp only [total, List.map_append, List.sum_append, List.map_cons, List.map_nil, List.sum_cons, List.sum_nil, Nat.add_zero]
theorem total_le (ps : List Piece) (k : Nat) : total (ps.take k) ≤ total ps := by
  have : total ps = total (ps.take k) + total (ps.drop k) := by
    conv => lhs; rw [← List.take_append_drop k ps]
    simp only [total, List.map_append, List.sum_append]
  omega
theorem joined_take (ps : List Piece) (k : Nat) (h : k < ps.length) : joined (ps.take (k + 1)) = joined (ps.take k) ++ (gt ps k).xs := by
  rw [List.take_succ_eq_append_getElem h, gt_eq _ _ h]
  simp only [joined, List.flatMap_append, List.flatMap_cons, List.flatMap_nil, List.append_nil]
theorem joined_len (ps : List Piece) : (joined ps).length = total ps := by simp [joined, total, List.length_flatMap]
theorem gt_mem {α : Type} [Inhabited α] (l : List α) (i : Nat) (h : i < l.length) : gt l i ∈ l := by rw [gt_eq l i h]; exact List.getElem_mem h
theorem gt_take {α : Type} [Inhabited α] (l : List α) (n j : Nat) (h : j < n) : gt (l.take n) j = gt l j := by simp [gt, List.getD_eq_getElem?_getD, List.getElem?_take, h]
theorem Row.from' {w : World} {a : Option Addr} {c : Nat} {l : List UInt8} (h : Row w a (l.map b8)) (hc : l.length ≤ c) (i : Nat) : Row w (Kw.sub a c i 1) ((l.drop i).map b8) := by
  have := h.sub (cap := c) (l := i) (sz := 1) (by simpa using hc)
  simpa using this
theorem Row.mid {w : World} {a : Option Addr} {c : Nat} {l : List UInt8} (h : Row w a (l.map b8)) (hc : l.length ≤ c) (i n : Nat) : Row w (Kw.sub a c i 1) (((l.drop i).take n).map b8) := by
  have := (Row.from' h hc i).take (n := n)
  simpa using this
theorem Row.behind {w : World} {a : Option Addr} {c : Nat} {x y : List UInt8} (h : Row w a ((x ++ y).map b8)) (hc : (x ++ y).length ≤ c) : Row w (Kw.sub a c x.length 1) (y.map b8) := by
  have := Row.from' h hc x.length
  rwa [List.drop_left] at this
end Go.Kw
end
section
namespace Go.Kw
set_option linter.unusedVariables false
set_option linter.unusedSimpArgs false
def natN (l : List UInt8) : Nat := l.foldl (fun n c => n * 256 + c.toNat) 0
def sgN (n : Nat) : Int := IntKind.i64.wrap (n : Int)
section
variable {P : Program} {ρ : Operand → Value} {w : World} {dst : Option Tmp} {ty : TypeId} {pos : String} {aft : Array Edge} {g : Option (Nat × Bool)} {x y : Operand} {T T2 : TypeId}
end
section
variable {P : Program} {ρ : Operand → Value} {w : World} {dst : Option Tmp} {ty : TypeId} {pos : String} {aft : Array Edge} {g : Option (Nat × Bool)} {T : TypeId} {d : TypeDesc} {sz bts : Nat} {zv : Value}
end
end Go.Kw
end
section
namespace Go.Kw
set_option linter.unusedVariables false
set_option linter.unusedSimpArgs false

/-- Eight octets of a number, an octet a shift. -/
def longR (n : Nat) : List UInt8 := (List.range 8).map fun i => UInt8.ofNat (n / 2 ^ (56 - 8 * i))
theorem longR_eq (n : Nat) (h : n < 18446744073709551616) : longR n = octs8 (UInt64.ofNat n) := by
  have hinj : ∀ l m : List UInt8, l.map UInt8.toNat = m.map UInt8.toNat → l = m := fun l m hlm => List.map_inj_right (fun a b hab => UInt8.toNat_inj.1 hab) |>.1 hlm
  apply hinj
  have e : (UInt64.ofNat n).toNat = n := by simp; omega
  rw [octs8, List.map_append, octs_nat, octs_nat]
  simp only [UInt64.toNat_toUInt32, UInt64.toNat_shiftRight, Nat.shiftRight_eq_div_pow, e]
  rw [show (32 : UInt64).toNat % 64 = 32 from rfl]
  simp only [longR, List.map_map, List.range, List.range.loop, List.map_cons, List.map_nil, Function.comp, UInt8.toNat_ofNat', List.cons_append, List.nil_append, List.cons.injEq, and_true, Nat.reduceMul, Nat.reduceSub, Nat.reducePow]
  omega

def blkL (k n : List UInt8) (i : Nat) : List UInt8 := stirL (splice (splice (splice (List.replicate 64 0) 0 k) 32 n) 56 (octs8 (UInt64.ofNat i)))
@[simp] theorem blkL_len (k n : List UInt8) (i : Nat) : (blkL k n i).length = 64 := by simp [blkL]
def strO (k n : List UInt8) (j : Nat) : UInt8 := gt (blkL k n (j / 64)) (j % 64)
def streamL (k n : List UInt8) (fr m : Nat) : List UInt8 := (List.range m).map fun t => strO k n (fr + t)
@[simp] theorem streamL_len (k n : List UInt8) (fr m : Nat) : (streamL k n fr m).length = m := by simp [streamL]
def coverTo (k n text : List UInt8) (j : Nat) : List UInt8 := (List.range text.length).map fun i => if i < j then strO k n i ^^^ gt text i else strO k n i
def coverL (k n text : List UInt8) : List UInt8 := coverTo k n text text.length
@[simp] theorem coverTo_len (k n text : List UInt8) (j : Nat) : (coverTo k n text j).length = text.length := by simp [coverTo]
@[simp] theorem coverL_len (k n text : List UInt8) : (coverL k n text).length = text.length := by simp [coverL]
end Go.Kw
end
